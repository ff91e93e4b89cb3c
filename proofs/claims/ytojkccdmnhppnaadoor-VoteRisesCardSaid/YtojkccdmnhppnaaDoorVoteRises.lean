/- The walk of the statement that what is promised never falls. -/
import Derived.Test.YtojkccdmnhppnaaDoorVoteOnce
set_option linter.unusedSimpArgs false
set_option linter.unusedVariables false
namespace Go.Proofs.YtojkccdmnhppnaaDoor
open Go.RowKit

namespace Vo
open Bl

attribute [local go_sem ↓] Bl.eql_ba Bl.neq_ba

/-- A request: a ballot, an index. -/
structure Ak where
  b : Ba
  i : Int
def Ak.cells (a : Ak) : List Value := [.int .i64 a.b.r, .int .i64 a.b.p, .int .i64 a.i]
theorem ak_len (a : Ak) : a.cells.length = 3 := rfl
/-- What was refused is ahead of what is promised. -/
def Inv (nw ws : Ba) : Prop := lessB ws zeroBa = false ∧ (ws = zeroBa ∨ lessB ws nw = true)
theorem inv_zero : Inv zeroBa zeroBa := ⟨less_self _, .inl rfl⟩
theorem inv_a {nw ws b : Ba} (h : Inv nw ws) (hb : b = zeroBa) : lessB ws b = false := by rw [hb]; exact h.1
theorem inv_b {nw ws b : Ba} (h : Inv nw ws) (hb : lessB ws b = true) (hl : lessB b nw = true) : Inv nw b := by
  refine ⟨?_, .inr hl⟩
  have h1 := h.1
  rw [less_not] at h1 ⊢
  rw [less_iff] at hb
  omega
theorem inv_c {nw ws b : Ba} (h : Inv nw ws) (hl : lessB b nw = false) : Inv b ws := by
  refine ⟨h.1, h.2.imp id fun h2 => ?_⟩
  rw [less_not] at hl
  rw [less_iff] at h2 ⊢
  omega

set_option maxRecDepth 100000 in
set_option maxHeartbeats 16000000 in
theorem rises_any (l : List Ak) (v : Value) (s : Int) (w : World) (hr : Row w w.heap.size v l.length (l.flatMap Ak.cells)) (ht : Tab w) :
    Calls Tryd.prog 4 #[v, .int .i64 s] w fun e w' => e = .returned (.bool true) ∧ Below w.heap.size w w' := by
  obtain ⟨A, c, rfl, hn, hc⟩ := hr.slice
  have hlen := hr.bound
  have HR := Lib.hid hr; clear hr
  have HT := Lib.hid ht; clear ht
  have AW := Lib.hid (awake_any w HT.out)
  by_cases hout : (100 : Int) < (l.length : Int) ∨ ((l.length : Int) ≤ 100 ∧ s < 0) ∨ ((l.length : Int) ≤ 100 ∧ 0 ≤ s ∧ 1099511627776 < s)
  · rcases hout with h1 | ⟨h1, h2⟩ | ⟨h1, h2, h3⟩
    all_goals
      go_enter Tryd.func4, Tryd.ntmps4
      go_wp2_with fail
      refine AW.out.mono ?_
      rintro e u ⟨rfl, hb⟩
      have HB := Lib.hid hb; clear hb
      go_wp2_with fail
      go_ret
      exact ⟨rfl, HB.out⟩
  have g1 : (l.length : Int) ≤ 100 := by omega
  have g2 : 0 ≤ s := by omega
  have g3 : s ≤ 1099511627776 := by omega
  clear hout
  have LL := Lib.hid less_any
  have KB := Lib.hid (Below.refl w.heap.size w)
  go_enter Tryd.func4, Tryd.ntmps4
  go_wp2_with fail
  refine (AW.out).mono ?_
  rintro e1 u1 ⟨rfl, hb⟩
  have HB := KB.out.trans (hb.mono (by first | omega | (simp; done) | (simp; omega) | (simp at *; omega)))
  clear hb KB
  have z_u1 := HB.size
  have KB := Lib.hid HB; clear HB
  go_wp2_with fail
  go_loopw [7] (fun iv wr => ∃ (k : Nat) (nw ws : Ba), k ≤ l.length ∧ iv = .int .i64 k ∧ Whole wr (u1.heap.size) 23 nw.cells ∧ Whole wr (u1.heap.size + 1) 23 ws.cells ∧ Inv nw ws ∧ Below w.heap.size w wr) (fun iv _ => l.length - (intOf iv).toNat)
  case atStart => exact ⟨0, zeroBa, zeroBa, Nat.zero_le _, rfl, ((Whole.new _ 23 _).alloc _), (wh_at u1 1 _ 23 _ (by simp)), inv_zero, ((KB.out.alloc (by first | omega | (simp; done) | (simp; omega) | (simp at *; omega)) _).alloc (by first | omega | (simp; done) | (simp; omega) | (simp at *; omega)) _)⟩
  case round =>
    obtain ⟨k, nw, ws, hk, rfl, H_now, H_worst, hinv, HB⟩ := hrel
    by_cases hlt : k < l.length
    · have h2 := HR.out
      obtain ⟨b2, o2, rfl, hb2, hx2⟩ := h2.elem ak_len (by omega) hlt
      have x0 := (HB.cell (p := ⟨b2, o2 + (k * 3 + 0), none⟩) hb2).trans (hx2 0 _ rfl)
      have x1 := (HB.cell (p := ⟨b2, o2 + (k * 3 + 1), none⟩) hb2).trans (hx2 1 _ rfl)
      have x2 := (HB.cell (p := ⟨b2, o2 + (k * 3 + 2), none⟩) hb2).trans (hx2 2 _ rfl)
      simp only [Nat.add_zero] at x0
      rw [← Nat.add_assoc] at x1 x2
      clear hx2 h2
      generalize l[k] = a at *
      obtain ⟨b, i⟩ := a
      simp only at x0 x1 x2
      have hpc := promise_cases nw b
      have HI := Lib.hid hinv; clear hinv
      obtain ⟨nr, np⟩ := nw
      obtain ⟨wor, wop⟩ := ws
      obtain ⟨br, bp⟩ := b
      have H_now : Whole wr (u1.heap.size) 23 [.int .i64 nr, .int .i64 np] := H_now
      have H_worst : Whole wr (u1.heap.size + 1) 23 [.int .i64 wor, .int .i64 wop] := H_worst
      have s1 := less_self ⟨nr, np⟩
      have s2 := same_self ⟨nr, np⟩
      have s3 := same_self ⟨br, bp⟩
      rcases hpc with ⟨hz, hp⟩ | ⟨hz, hl, hp⟩ | ⟨hz, hl, hp⟩
      · have hz' : sameB ⟨br, bp⟩ ⟨0, 0⟩ = true := same_iff.2 hz
        have hwb := inv_a HI.out hz
        have HI2 := HI
        clear hz
        cases q : sameB ⟨nr, np⟩ ⟨br, bp⟩
        ·
          have CP := promise_any ⟨nr, np⟩ ⟨br, bp⟩
          rw [hp] at CP
          simp only [Ba.cells] at CP
          have CP := Lib.hid CP
          by_cases i1 : i < 1
          ·
            clear hp
            have z_wr := HB.size
            have c_now_0 := H_now.cell 0; have f_now_0 := H_now.free 0; have c_now_1 := H_now.cell 1; have f_now_1 := H_now.free 1
            simp only [List.set_cons_zero, List.set_cons_succ, List.getElem?_cons_zero, List.getElem?_cons_succ] at c_now_0 c_now_1
            have c_worst_0 := H_worst.cell 0; have f_worst_0 := H_worst.free 0; have c_worst_1 := H_worst.cell 1; have f_worst_1 := H_worst.free 1
            simp only [List.set_cons_zero, List.set_cons_succ, List.getElem?_cons_zero, List.getElem?_cons_succ] at c_worst_0 c_worst_1
            have l_now := H_now.lt; have K_now := Lib.hid H_now; clear H_now
            have l_worst := H_worst.lt; have K_worst := Lib.hid H_worst; clear H_worst
            have KB := Lib.hid HB; clear HB
            go_wp2_with fail
            refine (CP.out _).mono ?_
            rintro e2 u2 ⟨rfl, hb⟩
            have H_now : Whole u2 (u1.heap.size) 23 _ := Whole.below ((K_now.out.alloc _).alloc _) hb (by first | omega | (simp; done) | (simp; omega) | (simp at *; omega))
            have H_worst : Whole u2 (u1.heap.size + 1) 23 _ := Whole.below ((K_worst.out.alloc _).alloc _) hb (by first | omega | (simp; done) | (simp; omega) | (simp at *; omega))
            have H_x : Whole u2 (wr.heap.size) 39 _ := Whole.below ((Whole.new _ 39 _).alloc _) hb (by first | omega | (simp; done) | (simp; omega) | (simp at *; omega))
            have H_was : Whole u2 (wr.heap.size + 1) 23 _ := Whole.below (wh_at wr 1 _ 23 _ (by simp)) hb (by first | omega | (simp; done) | (simp; omega) | (simp at *; omega))
            have HB := ((KB.out.alloc (by first | omega | (simp; done) | (simp; omega) | (simp at *; omega)) _).alloc (by first | omega | (simp; done) | (simp; omega) | (simp at *; omega)) _).trans (hb.mono (by first | omega | (simp; done) | (simp; omega) | (simp at *; omega)))
            clear c_now_0 c_now_1 f_now_0 f_now_1 c_worst_0 c_worst_1 f_worst_0 f_worst_1
            clear hb KB K_now K_worst
            have z_u2 := HB.size
            have c_now_0 := H_now.cell 0; have f_now_0 := H_now.free 0; have c_now_1 := H_now.cell 1; have f_now_1 := H_now.free 1
            simp only [List.set_cons_zero, List.set_cons_succ, List.getElem?_cons_zero, List.getElem?_cons_succ] at c_now_0 c_now_1
            have c_worst_0 := H_worst.cell 0; have f_worst_0 := H_worst.free 0; have c_worst_1 := H_worst.cell 1; have f_worst_1 := H_worst.free 1
            simp only [List.set_cons_zero, List.set_cons_succ, List.getElem?_cons_zero, List.getElem?_cons_succ] at c_worst_0 c_worst_1
            have c_x_0 := H_x.cell 0; have f_x_0 := H_x.free 0; have c_x_1 := H_x.cell 1; have f_x_1 := H_x.free 1; have c_x_2 := H_x.cell 2; have f_x_2 := H_x.free 2
            simp only [List.set_cons_zero, List.set_cons_succ, List.getElem?_cons_zero, List.getElem?_cons_succ] at c_x_0 c_x_1 c_x_2
            have c_was_0 := H_was.cell 0; have f_was_0 := H_was.free 0; have c_was_1 := H_was.cell 1; have f_was_1 := H_was.free 1
            simp only [List.set_cons_zero, List.set_cons_succ, List.getElem?_cons_zero, List.getElem?_cons_succ] at c_was_0 c_was_1
            have l_now := H_now.lt; have K_now := Lib.hid H_now; clear H_now
            have l_worst := H_worst.lt; have K_worst := Lib.hid H_worst; clear H_worst
            have l_x := H_x.lt; have K_x := Lib.hid H_x; clear H_x
            have l_was := H_was.lt; have K_was := Lib.hid H_was; clear H_was
            have KB := Lib.hid HB; clear HB
            go_wp2_with fail
            refine (LL.out ⟨_, _⟩ ⟨_, _⟩ _).mono ?_
            rintro e3 u3 ⟨rfl, hb⟩
            have H_now : Whole u3 (u1.heap.size) 23 _ := Whole.below ((K_now.out.set 0 _).set 1 _) hb (by first | omega | (simp; done) | (simp; omega) | (simp at *; omega))
            have H_worst : Whole u3 (u1.heap.size + 1) 23 _ := Whole.below ((K_worst.out.far (p := ⟨u1.heap.size, 0, none⟩) (by first | omega | (simp; done) | (simp; omega) | (simp at *; omega)) _).far (p := ⟨u1.heap.size, 1, none⟩) (by first | omega | (simp; done) | (simp; omega) | (simp at *; omega)) _) hb (by first | omega | (simp; done) | (simp; omega) | (simp at *; omega))
            have H_x : Whole u3 (wr.heap.size) 39 _ := Whole.below ((K_x.out.far (p := ⟨u1.heap.size, 0, none⟩) (by first | omega | (simp; done) | (simp; omega) | (simp at *; omega)) _).far (p := ⟨u1.heap.size, 1, none⟩) (by first | omega | (simp; done) | (simp; omega) | (simp at *; omega)) _) hb (by first | omega | (simp; done) | (simp; omega) | (simp at *; omega))
            have H_was : Whole u3 (wr.heap.size + 1) 23 _ := Whole.below ((K_was.out.far (p := ⟨u1.heap.size, 0, none⟩) (by first | omega | (simp; done) | (simp; omega) | (simp at *; omega)) _).far (p := ⟨u1.heap.size, 1, none⟩) (by first | omega | (simp; done) | (simp; omega) | (simp at *; omega)) _) hb (by first | omega | (simp; done) | (simp; omega) | (simp at *; omega))
            have HB := ((KB.out.setCell (p := ⟨u1.heap.size, 0, none⟩) (by first | omega | (simp; done) | (simp; omega) | (simp at *; omega)) _).setCell (p := ⟨u1.heap.size, 1, none⟩) (by first | omega | (simp; done) | (simp; omega) | (simp at *; omega)) _).trans (hb.mono (by first | omega | (simp; done) | (simp; omega) | (simp at *; omega)))
            clear c_now_0 c_now_1 f_now_0 f_now_1 c_worst_0 c_worst_1 f_worst_0 f_worst_1 c_x_0 c_x_1 c_x_2 f_x_0 f_x_1 f_x_2 c_was_0 c_was_1 f_was_0 f_was_1 l_now l_worst l_x l_was
            clear hb KB K_now K_worst K_x K_was
            have z_u3 := HB.size
            have c_now_0 := H_now.cell 0; have f_now_0 := H_now.free 0; have c_now_1 := H_now.cell 1; have f_now_1 := H_now.free 1
            simp only [List.set_cons_zero, List.set_cons_succ, List.getElem?_cons_zero, List.getElem?_cons_succ] at c_now_0 c_now_1
            have c_worst_0 := H_worst.cell 0; have f_worst_0 := H_worst.free 0; have c_worst_1 := H_worst.cell 1; have f_worst_1 := H_worst.free 1
            simp only [List.set_cons_zero, List.set_cons_succ, List.getElem?_cons_zero, List.getElem?_cons_succ] at c_worst_0 c_worst_1
            have c_x_0 := H_x.cell 0; have f_x_0 := H_x.free 0; have c_x_1 := H_x.cell 1; have f_x_1 := H_x.free 1; have c_x_2 := H_x.cell 2; have f_x_2 := H_x.free 2
            simp only [List.set_cons_zero, List.set_cons_succ, List.getElem?_cons_zero, List.getElem?_cons_succ] at c_x_0 c_x_1 c_x_2
            have c_was_0 := H_was.cell 0; have f_was_0 := H_was.free 0; have c_was_1 := H_was.cell 1; have f_was_1 := H_was.free 1
            simp only [List.set_cons_zero, List.set_cons_succ, List.getElem?_cons_zero, List.getElem?_cons_succ] at c_was_0 c_was_1
            have l_now := H_now.lt; have K_now := Lib.hid H_now; clear H_now
            have l_worst := H_worst.lt; have K_worst := Lib.hid H_worst; clear H_worst
            have l_x := H_x.lt; have K_x := Lib.hid H_x; clear H_x
            have l_was := H_was.lt; have K_was := Lib.hid H_was; clear H_was
            have KB := Lib.hid HB; clear HB
            go_wp2_with fail
            refine (LL.out ⟨_, _⟩ ⟨_, _⟩ _).mono ?_
            rintro e4 u4 ⟨rfl, hb⟩
            have H_now : Whole u4 (u1.heap.size) 23 _ := Whole.below K_now.out hb (by first | omega | (simp; done) | (simp; omega) | (simp at *; omega))
            have H_worst : Whole u4 (u1.heap.size + 1) 23 _ := Whole.below K_worst.out hb (by first | omega | (simp; done) | (simp; omega) | (simp at *; omega))
            have H_x : Whole u4 (wr.heap.size) 39 _ := Whole.below K_x.out hb (by first | omega | (simp; done) | (simp; omega) | (simp at *; omega))
            have H_was : Whole u4 (wr.heap.size + 1) 23 _ := Whole.below K_was.out hb (by first | omega | (simp; done) | (simp; omega) | (simp at *; omega))
            have HB := KB.out.trans (hb.mono (by first | omega | (simp; done) | (simp; omega) | (simp at *; omega)))
            clear c_now_0 c_now_1 f_now_0 f_now_1 c_worst_0 c_worst_1 f_worst_0 f_worst_1 c_x_0 c_x_1 c_x_2 f_x_0 f_x_1 f_x_2 c_was_0 c_was_1 f_was_0 f_was_1 l_now l_worst l_x l_was
            clear hb KB K_now K_worst K_x K_was
            have z_u4 := HB.size
            have c_now_0 := H_now.cell 0; have f_now_0 := H_now.free 0; have c_now_1 := H_now.cell 1; have f_now_1 := H_now.free 1
            simp only [List.set_cons_zero, List.set_cons_succ, List.getElem?_cons_zero, List.getElem?_cons_succ] at c_now_0 c_now_1
            have c_worst_0 := H_worst.cell 0; have f_worst_0 := H_worst.free 0; have c_worst_1 := H_worst.cell 1; have f_worst_1 := H_worst.free 1
            simp only [List.set_cons_zero, List.set_cons_succ, List.getElem?_cons_zero, List.getElem?_cons_succ] at c_worst_0 c_worst_1
            have c_x_0 := H_x.cell 0; have f_x_0 := H_x.free 0; have c_x_1 := H_x.cell 1; have f_x_1 := H_x.free 1; have c_x_2 := H_x.cell 2; have f_x_2 := H_x.free 2
            simp only [List.set_cons_zero, List.set_cons_succ, List.getElem?_cons_zero, List.getElem?_cons_succ] at c_x_0 c_x_1 c_x_2
            have c_was_0 := H_was.cell 0; have f_was_0 := H_was.free 0; have c_was_1 := H_was.cell 1; have f_was_1 := H_was.free 1
            simp only [List.set_cons_zero, List.set_cons_succ, List.getElem?_cons_zero, List.getElem?_cons_succ] at c_was_0 c_was_1
            have l_now := H_now.lt; have K_now := Lib.hid H_now; clear H_now
            have l_worst := H_worst.lt; have K_worst := Lib.hid H_worst; clear H_worst
            have l_x := H_x.lt; have K_x := Lib.hid H_x; clear H_x
            have l_was := H_was.lt; have K_was := Lib.hid H_was; clear H_was
            have KB := Lib.hid HB; clear HB
            go_wp2_with fail
            go_roundw
            case rel => exact ⟨k + 1, ⟨nr, np⟩, ⟨wor, wop⟩, by omega, by go_num, K_now.out, K_worst.out, HI2.out, KB.out⟩
            case measure => simp [intOf]; omega
          by_cases i2 : 1099511627776 < i
          ·
            clear hp
            have z_wr := HB.size
            have c_now_0 := H_now.cell 0; have f_now_0 := H_now.free 0; have c_now_1 := H_now.cell 1; have f_now_1 := H_now.free 1
            simp only [List.set_cons_zero, List.set_cons_succ, List.getElem?_cons_zero, List.getElem?_cons_succ] at c_now_0 c_now_1
            have c_worst_0 := H_worst.cell 0; have f_worst_0 := H_worst.free 0; have c_worst_1 := H_worst.cell 1; have f_worst_1 := H_worst.free 1
            simp only [List.set_cons_zero, List.set_cons_succ, List.getElem?_cons_zero, List.getElem?_cons_succ] at c_worst_0 c_worst_1
            have l_now := H_now.lt; have K_now := Lib.hid H_now; clear H_now
            have l_worst := H_worst.lt; have K_worst := Lib.hid H_worst; clear H_worst
            have KB := Lib.hid HB; clear HB
            go_wp2_with fail
            refine (CP.out _).mono ?_
            rintro e2 u2 ⟨rfl, hb⟩
            have H_now : Whole u2 (u1.heap.size) 23 _ := Whole.below ((K_now.out.alloc _).alloc _) hb (by first | omega | (simp; done) | (simp; omega) | (simp at *; omega))
            have H_worst : Whole u2 (u1.heap.size + 1) 23 _ := Whole.below ((K_worst.out.alloc _).alloc _) hb (by first | omega | (simp; done) | (simp; omega) | (simp at *; omega))
            have H_x : Whole u2 (wr.heap.size) 39 _ := Whole.below ((Whole.new _ 39 _).alloc _) hb (by first | omega | (simp; done) | (simp; omega) | (simp at *; omega))
            have H_was : Whole u2 (wr.heap.size + 1) 23 _ := Whole.below (wh_at wr 1 _ 23 _ (by simp)) hb (by first | omega | (simp; done) | (simp; omega) | (simp at *; omega))
            have HB := ((KB.out.alloc (by first | omega | (simp; done) | (simp; omega) | (simp at *; omega)) _).alloc (by first | omega | (simp; done) | (simp; omega) | (simp at *; omega)) _).trans (hb.mono (by first | omega | (simp; done) | (simp; omega) | (simp at *; omega)))
            clear c_now_0 c_now_1 f_now_0 f_now_1 c_worst_0 c_worst_1 f_worst_0 f_worst_1
            clear hb KB K_now K_worst
            have z_u2 := HB.size
            have c_now_0 := H_now.cell 0; have f_now_0 := H_now.free 0; have c_now_1 := H_now.cell 1; have f_now_1 := H_now.free 1
            simp only [List.set_cons_zero, List.set_cons_succ, List.getElem?_cons_zero, List.getElem?_cons_succ] at c_now_0 c_now_1
            have c_worst_0 := H_worst.cell 0; have f_worst_0 := H_worst.free 0; have c_worst_1 := H_worst.cell 1; have f_worst_1 := H_worst.free 1
            simp only [List.set_cons_zero, List.set_cons_succ, List.getElem?_cons_zero, List.getElem?_cons_succ] at c_worst_0 c_worst_1
            have c_x_0 := H_x.cell 0; have f_x_0 := H_x.free 0; have c_x_1 := H_x.cell 1; have f_x_1 := H_x.free 1; have c_x_2 := H_x.cell 2; have f_x_2 := H_x.free 2
            simp only [List.set_cons_zero, List.set_cons_succ, List.getElem?_cons_zero, List.getElem?_cons_succ] at c_x_0 c_x_1 c_x_2
            have c_was_0 := H_was.cell 0; have f_was_0 := H_was.free 0; have c_was_1 := H_was.cell 1; have f_was_1 := H_was.free 1
            simp only [List.set_cons_zero, List.set_cons_succ, List.getElem?_cons_zero, List.getElem?_cons_succ] at c_was_0 c_was_1
            have l_now := H_now.lt; have K_now := Lib.hid H_now; clear H_now
            have l_worst := H_worst.lt; have K_worst := Lib.hid H_worst; clear H_worst
            have l_x := H_x.lt; have K_x := Lib.hid H_x; clear H_x
            have l_was := H_was.lt; have K_was := Lib.hid H_was; clear H_was
            have KB := Lib.hid HB; clear HB
            go_wp2_with fail
            refine (LL.out ⟨_, _⟩ ⟨_, _⟩ _).mono ?_
            rintro e3 u3 ⟨rfl, hb⟩
            have H_now : Whole u3 (u1.heap.size) 23 _ := Whole.below ((K_now.out.set 0 _).set 1 _) hb (by first | omega | (simp; done) | (simp; omega) | (simp at *; omega))
            have H_worst : Whole u3 (u1.heap.size + 1) 23 _ := Whole.below ((K_worst.out.far (p := ⟨u1.heap.size, 0, none⟩) (by first | omega | (simp; done) | (simp; omega) | (simp at *; omega)) _).far (p := ⟨u1.heap.size, 1, none⟩) (by first | omega | (simp; done) | (simp; omega) | (simp at *; omega)) _) hb (by first | omega | (simp; done) | (simp; omega) | (simp at *; omega))
            have H_x : Whole u3 (wr.heap.size) 39 _ := Whole.below ((K_x.out.far (p := ⟨u1.heap.size, 0, none⟩) (by first | omega | (simp; done) | (simp; omega) | (simp at *; omega)) _).far (p := ⟨u1.heap.size, 1, none⟩) (by first | omega | (simp; done) | (simp; omega) | (simp at *; omega)) _) hb (by first | omega | (simp; done) | (simp; omega) | (simp at *; omega))
            have H_was : Whole u3 (wr.heap.size + 1) 23 _ := Whole.below ((K_was.out.far (p := ⟨u1.heap.size, 0, none⟩) (by first | omega | (simp; done) | (simp; omega) | (simp at *; omega)) _).far (p := ⟨u1.heap.size, 1, none⟩) (by first | omega | (simp; done) | (simp; omega) | (simp at *; omega)) _) hb (by first | omega | (simp; done) | (simp; omega) | (simp at *; omega))
            have HB := ((KB.out.setCell (p := ⟨u1.heap.size, 0, none⟩) (by first | omega | (simp; done) | (simp; omega) | (simp at *; omega)) _).setCell (p := ⟨u1.heap.size, 1, none⟩) (by first | omega | (simp; done) | (simp; omega) | (simp at *; omega)) _).trans (hb.mono (by first | omega | (simp; done) | (simp; omega) | (simp at *; omega)))
            clear c_now_0 c_now_1 f_now_0 f_now_1 c_worst_0 c_worst_1 f_worst_0 f_worst_1 c_x_0 c_x_1 c_x_2 f_x_0 f_x_1 f_x_2 c_was_0 c_was_1 f_was_0 f_was_1 l_now l_worst l_x l_was
            clear hb KB K_now K_worst K_x K_was
            have z_u3 := HB.size
            have c_now_0 := H_now.cell 0; have f_now_0 := H_now.free 0; have c_now_1 := H_now.cell 1; have f_now_1 := H_now.free 1
            simp only [List.set_cons_zero, List.set_cons_succ, List.getElem?_cons_zero, List.getElem?_cons_succ] at c_now_0 c_now_1
            have c_worst_0 := H_worst.cell 0; have f_worst_0 := H_worst.free 0; have c_worst_1 := H_worst.cell 1; have f_worst_1 := H_worst.free 1
            simp only [List.set_cons_zero, List.set_cons_succ, List.getElem?_cons_zero, List.getElem?_cons_succ] at c_worst_0 c_worst_1
            have c_x_0 := H_x.cell 0; have f_x_0 := H_x.free 0; have c_x_1 := H_x.cell 1; have f_x_1 := H_x.free 1; have c_x_2 := H_x.cell 2; have f_x_2 := H_x.free 2
            simp only [List.set_cons_zero, List.set_cons_succ, List.getElem?_cons_zero, List.getElem?_cons_succ] at c_x_0 c_x_1 c_x_2
            have c_was_0 := H_was.cell 0; have f_was_0 := H_was.free 0; have c_was_1 := H_was.cell 1; have f_was_1 := H_was.free 1
            simp only [List.set_cons_zero, List.set_cons_succ, List.getElem?_cons_zero, List.getElem?_cons_succ] at c_was_0 c_was_1
            have l_now := H_now.lt; have K_now := Lib.hid H_now; clear H_now
            have l_worst := H_worst.lt; have K_worst := Lib.hid H_worst; clear H_worst
            have l_x := H_x.lt; have K_x := Lib.hid H_x; clear H_x
            have l_was := H_was.lt; have K_was := Lib.hid H_was; clear H_was
            have KB := Lib.hid HB; clear HB
            go_wp2_with fail
            refine (LL.out ⟨_, _⟩ ⟨_, _⟩ _).mono ?_
            rintro e4 u4 ⟨rfl, hb⟩
            have H_now : Whole u4 (u1.heap.size) 23 _ := Whole.below K_now.out hb (by first | omega | (simp; done) | (simp; omega) | (simp at *; omega))
            have H_worst : Whole u4 (u1.heap.size + 1) 23 _ := Whole.below K_worst.out hb (by first | omega | (simp; done) | (simp; omega) | (simp at *; omega))
            have H_x : Whole u4 (wr.heap.size) 39 _ := Whole.below K_x.out hb (by first | omega | (simp; done) | (simp; omega) | (simp at *; omega))
            have H_was : Whole u4 (wr.heap.size + 1) 23 _ := Whole.below K_was.out hb (by first | omega | (simp; done) | (simp; omega) | (simp at *; omega))
            have HB := KB.out.trans (hb.mono (by first | omega | (simp; done) | (simp; omega) | (simp at *; omega)))
            clear c_now_0 c_now_1 f_now_0 f_now_1 c_worst_0 c_worst_1 f_worst_0 f_worst_1 c_x_0 c_x_1 c_x_2 f_x_0 f_x_1 f_x_2 c_was_0 c_was_1 f_was_0 f_was_1 l_now l_worst l_x l_was
            clear hb KB K_now K_worst K_x K_was
            have z_u4 := HB.size
            have c_now_0 := H_now.cell 0; have f_now_0 := H_now.free 0; have c_now_1 := H_now.cell 1; have f_now_1 := H_now.free 1
            simp only [List.set_cons_zero, List.set_cons_succ, List.getElem?_cons_zero, List.getElem?_cons_succ] at c_now_0 c_now_1
            have c_worst_0 := H_worst.cell 0; have f_worst_0 := H_worst.free 0; have c_worst_1 := H_worst.cell 1; have f_worst_1 := H_worst.free 1
            simp only [List.set_cons_zero, List.set_cons_succ, List.getElem?_cons_zero, List.getElem?_cons_succ] at c_worst_0 c_worst_1
            have c_x_0 := H_x.cell 0; have f_x_0 := H_x.free 0; have c_x_1 := H_x.cell 1; have f_x_1 := H_x.free 1; have c_x_2 := H_x.cell 2; have f_x_2 := H_x.free 2
            simp only [List.set_cons_zero, List.set_cons_succ, List.getElem?_cons_zero, List.getElem?_cons_succ] at c_x_0 c_x_1 c_x_2
            have c_was_0 := H_was.cell 0; have f_was_0 := H_was.free 0; have c_was_1 := H_was.cell 1; have f_was_1 := H_was.free 1
            simp only [List.set_cons_zero, List.set_cons_succ, List.getElem?_cons_zero, List.getElem?_cons_succ] at c_was_0 c_was_1
            have l_now := H_now.lt; have K_now := Lib.hid H_now; clear H_now
            have l_worst := H_worst.lt; have K_worst := Lib.hid H_worst; clear H_worst
            have l_x := H_x.lt; have K_x := Lib.hid H_x; clear H_x
            have l_was := H_was.lt; have K_was := Lib.hid H_was; clear H_was
            have KB := Lib.hid HB; clear HB
            go_wp2_with fail
            go_roundw
            case rel => exact ⟨k + 1, ⟨nr, np⟩, ⟨wor, wop⟩, by omega, by go_num, K_now.out, K_worst.out, HI2.out, KB.out⟩
            case measure => simp [intOf]; omega
          · have CA := accept_any ⟨nr, np⟩ ⟨br, bp⟩ s i
            have hww : (whereZ s i).2 ≠ 2 := by
              rcases where_cases s i with ⟨hb, _⟩ | ⟨_, _, h⟩ | ⟨_, _, _, h⟩ | ⟨_, _, _, h⟩
              · have : badW s i = false := badW_false.2 ⟨by omega, by omega, by omega, by omega⟩
                rw [this] at hb; cases hb
              all_goals rw [h]; decide
            rw [accept_ok_is hww hp] at CA
            have hd := done_ne (whereZ s i).1
            clear hww
            generalize doneZ (whereZ s i).1 = x at *
            obtain ⟨hd1, hd0⟩ := hd
            simp only [Ba.cells, if_true, if_false, Bool.false_eq_true] at CA
            have CA := Lib.hid CA
            clear hp
            have z_wr := HB.size
            have c_now_0 := H_now.cell 0; have f_now_0 := H_now.free 0; have c_now_1 := H_now.cell 1; have f_now_1 := H_now.free 1
            simp only [List.set_cons_zero, List.set_cons_succ, List.getElem?_cons_zero, List.getElem?_cons_succ] at c_now_0 c_now_1
            have c_worst_0 := H_worst.cell 0; have f_worst_0 := H_worst.free 0; have c_worst_1 := H_worst.cell 1; have f_worst_1 := H_worst.free 1
            simp only [List.set_cons_zero, List.set_cons_succ, List.getElem?_cons_zero, List.getElem?_cons_succ] at c_worst_0 c_worst_1
            have l_now := H_now.lt; have K_now := Lib.hid H_now; clear H_now
            have l_worst := H_worst.lt; have K_worst := Lib.hid H_worst; clear H_worst
            have KB := Lib.hid HB; clear HB
            go_wp2_with fail
            refine (CA.out _ (HT.out.below ((KB.out.alloc (by first | omega | (simp; done) | (simp; omega) | (simp at *; omega)) _).alloc (by first | omega | (simp; done) | (simp; omega) | (simp at *; omega)) _))).mono ?_
            rintro e2 u2 ⟨rfl, hb⟩
            have H_now : Whole u2 (u1.heap.size) 23 _ := Whole.below ((K_now.out.alloc _).alloc _) hb (by first | omega | (simp; done) | (simp; omega) | (simp at *; omega))
            have H_worst : Whole u2 (u1.heap.size + 1) 23 _ := Whole.below ((K_worst.out.alloc _).alloc _) hb (by first | omega | (simp; done) | (simp; omega) | (simp at *; omega))
            have H_x : Whole u2 (wr.heap.size) 39 _ := Whole.below ((Whole.new _ 39 _).alloc _) hb (by first | omega | (simp; done) | (simp; omega) | (simp at *; omega))
            have H_was : Whole u2 (wr.heap.size + 1) 23 _ := Whole.below (wh_at wr 1 _ 23 _ (by simp)) hb (by first | omega | (simp; done) | (simp; omega) | (simp at *; omega))
            have HB := ((KB.out.alloc (by first | omega | (simp; done) | (simp; omega) | (simp at *; omega)) _).alloc (by first | omega | (simp; done) | (simp; omega) | (simp at *; omega)) _).trans (hb.mono (by first | omega | (simp; done) | (simp; omega) | (simp at *; omega)))
            clear c_now_0 c_now_1 f_now_0 f_now_1 c_worst_0 c_worst_1 f_worst_0 f_worst_1
            clear hb KB K_now K_worst
            have z_u2 := HB.size
            have c_now_0 := H_now.cell 0; have f_now_0 := H_now.free 0; have c_now_1 := H_now.cell 1; have f_now_1 := H_now.free 1
            simp only [List.set_cons_zero, List.set_cons_succ, List.getElem?_cons_zero, List.getElem?_cons_succ] at c_now_0 c_now_1
            have c_worst_0 := H_worst.cell 0; have f_worst_0 := H_worst.free 0; have c_worst_1 := H_worst.cell 1; have f_worst_1 := H_worst.free 1
            simp only [List.set_cons_zero, List.set_cons_succ, List.getElem?_cons_zero, List.getElem?_cons_succ] at c_worst_0 c_worst_1
            have c_x_0 := H_x.cell 0; have f_x_0 := H_x.free 0; have c_x_1 := H_x.cell 1; have f_x_1 := H_x.free 1; have c_x_2 := H_x.cell 2; have f_x_2 := H_x.free 2
            simp only [List.set_cons_zero, List.set_cons_succ, List.getElem?_cons_zero, List.getElem?_cons_succ] at c_x_0 c_x_1 c_x_2
            have c_was_0 := H_was.cell 0; have f_was_0 := H_was.free 0; have c_was_1 := H_was.cell 1; have f_was_1 := H_was.free 1
            simp only [List.set_cons_zero, List.set_cons_succ, List.getElem?_cons_zero, List.getElem?_cons_succ] at c_was_0 c_was_1
            have l_now := H_now.lt; have K_now := Lib.hid H_now; clear H_now
            have l_worst := H_worst.lt; have K_worst := Lib.hid H_worst; clear H_worst
            have l_x := H_x.lt; have K_x := Lib.hid H_x; clear H_x
            have l_was := H_was.lt; have K_was := Lib.hid H_was; clear H_was
            have KB := Lib.hid HB; clear HB
            go_wp2_with fail
            refine (LL.out ⟨_, _⟩ ⟨_, _⟩ _).mono ?_
            rintro e3 u3 ⟨rfl, hb⟩
            have H_now : Whole u3 (u1.heap.size) 23 _ := Whole.below (((K_now.out.set 0 _).set 1 _).alloc _) hb (by first | omega | (simp; done) | (simp; omega) | (simp at *; omega))
            have H_worst : Whole u3 (u1.heap.size + 1) 23 _ := Whole.below (((K_worst.out.far (p := ⟨u1.heap.size, 0, none⟩) (by first | omega | (simp; done) | (simp; omega) | (simp at *; omega)) _).far (p := ⟨u1.heap.size, 1, none⟩) (by first | omega | (simp; done) | (simp; omega) | (simp at *; omega)) _).alloc _) hb (by first | omega | (simp; done) | (simp; omega) | (simp at *; omega))
            have H_x : Whole u3 (wr.heap.size) 39 _ := Whole.below (((K_x.out.far (p := ⟨u1.heap.size, 0, none⟩) (by first | omega | (simp; done) | (simp; omega) | (simp at *; omega)) _).far (p := ⟨u1.heap.size, 1, none⟩) (by first | omega | (simp; done) | (simp; omega) | (simp at *; omega)) _).alloc _) hb (by first | omega | (simp; done) | (simp; omega) | (simp at *; omega))
            have H_was : Whole u3 (wr.heap.size + 1) 23 _ := Whole.below (((K_was.out.far (p := ⟨u1.heap.size, 0, none⟩) (by first | omega | (simp; done) | (simp; omega) | (simp at *; omega)) _).far (p := ⟨u1.heap.size, 1, none⟩) (by first | omega | (simp; done) | (simp; omega) | (simp at *; omega)) _).alloc _) hb (by first | omega | (simp; done) | (simp; omega) | (simp at *; omega))
            have H_then : Whole u3 (u2.heap.size) 23 _ := Whole.below (wh_at0 u2 _ 23 _ (by simp [size_set])) hb (by first | omega | (simp; done) | (simp; omega) | (simp at *; omega))
            have HB := (((KB.out.setCell (p := ⟨u1.heap.size, 0, none⟩) (by first | omega | (simp; done) | (simp; omega) | (simp at *; omega)) _).setCell (p := ⟨u1.heap.size, 1, none⟩) (by first | omega | (simp; done) | (simp; omega) | (simp at *; omega)) _).alloc (by first | omega | (simp; done) | (simp; omega) | (simp at *; omega)) _).trans (hb.mono (by first | omega | (simp; done) | (simp; omega) | (simp at *; omega)))
            clear c_now_0 c_now_1 f_now_0 f_now_1 c_worst_0 c_worst_1 f_worst_0 f_worst_1 c_x_0 c_x_1 c_x_2 f_x_0 f_x_1 f_x_2 c_was_0 c_was_1 f_was_0 f_was_1
            clear hb KB K_now K_worst K_x K_was
            have z_u3 := HB.size
            have c_now_0 := H_now.cell 0; have f_now_0 := H_now.free 0; have c_now_1 := H_now.cell 1; have f_now_1 := H_now.free 1
            simp only [List.set_cons_zero, List.set_cons_succ, List.getElem?_cons_zero, List.getElem?_cons_succ] at c_now_0 c_now_1
            have c_worst_0 := H_worst.cell 0; have f_worst_0 := H_worst.free 0; have c_worst_1 := H_worst.cell 1; have f_worst_1 := H_worst.free 1
            simp only [List.set_cons_zero, List.set_cons_succ, List.getElem?_cons_zero, List.getElem?_cons_succ] at c_worst_0 c_worst_1
            have c_x_0 := H_x.cell 0; have f_x_0 := H_x.free 0; have c_x_1 := H_x.cell 1; have f_x_1 := H_x.free 1; have c_x_2 := H_x.cell 2; have f_x_2 := H_x.free 2
            simp only [List.set_cons_zero, List.set_cons_succ, List.getElem?_cons_zero, List.getElem?_cons_succ] at c_x_0 c_x_1 c_x_2
            have c_was_0 := H_was.cell 0; have f_was_0 := H_was.free 0; have c_was_1 := H_was.cell 1; have f_was_1 := H_was.free 1
            simp only [List.set_cons_zero, List.set_cons_succ, List.getElem?_cons_zero, List.getElem?_cons_succ] at c_was_0 c_was_1
            have c_then_0 := H_then.cell 0; have f_then_0 := H_then.free 0; have c_then_1 := H_then.cell 1; have f_then_1 := H_then.free 1
            simp only [List.set_cons_zero, List.set_cons_succ, List.getElem?_cons_zero, List.getElem?_cons_succ] at c_then_0 c_then_1
            have l_now := H_now.lt; have K_now := Lib.hid H_now; clear H_now
            have l_worst := H_worst.lt; have K_worst := Lib.hid H_worst; clear H_worst
            have l_x := H_x.lt; have K_x := Lib.hid H_x; clear H_x
            have l_was := H_was.lt; have K_was := Lib.hid H_was; clear H_was
            have l_then := H_then.lt; have K_then := Lib.hid H_then; clear H_then
            have KB := Lib.hid HB; clear HB
            go_wp2_with fail
            refine (LL.out ⟨_, _⟩ ⟨_, _⟩ _).mono ?_
            rintro e4 u4 ⟨rfl, hb⟩
            have H_now : Whole u4 (u1.heap.size) 23 _ := Whole.below K_now.out hb (by first | omega | (simp; done) | (simp; omega) | (simp at *; omega))
            have H_worst : Whole u4 (u1.heap.size + 1) 23 _ := Whole.below K_worst.out hb (by first | omega | (simp; done) | (simp; omega) | (simp at *; omega))
            have H_x : Whole u4 (wr.heap.size) 39 _ := Whole.below K_x.out hb (by first | omega | (simp; done) | (simp; omega) | (simp at *; omega))
            have H_was : Whole u4 (wr.heap.size + 1) 23 _ := Whole.below K_was.out hb (by first | omega | (simp; done) | (simp; omega) | (simp at *; omega))
            have H_then : Whole u4 (u2.heap.size) 23 _ := Whole.below K_then.out hb (by first | omega | (simp; done) | (simp; omega) | (simp at *; omega))
            have HB := KB.out.trans (hb.mono (by first | omega | (simp; done) | (simp; omega) | (simp at *; omega)))
            clear c_now_0 c_now_1 f_now_0 f_now_1 c_worst_0 c_worst_1 f_worst_0 f_worst_1 c_x_0 c_x_1 c_x_2 f_x_0 f_x_1 f_x_2 c_was_0 c_was_1 f_was_0 f_was_1 c_then_0 c_then_1 f_then_0 f_then_1 l_now l_worst l_x l_was l_then
            clear hb KB K_now K_worst K_x K_was K_then
            have z_u4 := HB.size
            have c_now_0 := H_now.cell 0; have f_now_0 := H_now.free 0; have c_now_1 := H_now.cell 1; have f_now_1 := H_now.free 1
            simp only [List.set_cons_zero, List.set_cons_succ, List.getElem?_cons_zero, List.getElem?_cons_succ] at c_now_0 c_now_1
            have c_worst_0 := H_worst.cell 0; have f_worst_0 := H_worst.free 0; have c_worst_1 := H_worst.cell 1; have f_worst_1 := H_worst.free 1
            simp only [List.set_cons_zero, List.set_cons_succ, List.getElem?_cons_zero, List.getElem?_cons_succ] at c_worst_0 c_worst_1
            have c_x_0 := H_x.cell 0; have f_x_0 := H_x.free 0; have c_x_1 := H_x.cell 1; have f_x_1 := H_x.free 1; have c_x_2 := H_x.cell 2; have f_x_2 := H_x.free 2
            simp only [List.set_cons_zero, List.set_cons_succ, List.getElem?_cons_zero, List.getElem?_cons_succ] at c_x_0 c_x_1 c_x_2
            have c_was_0 := H_was.cell 0; have f_was_0 := H_was.free 0; have c_was_1 := H_was.cell 1; have f_was_1 := H_was.free 1
            simp only [List.set_cons_zero, List.set_cons_succ, List.getElem?_cons_zero, List.getElem?_cons_succ] at c_was_0 c_was_1
            have c_then_0 := H_then.cell 0; have f_then_0 := H_then.free 0; have c_then_1 := H_then.cell 1; have f_then_1 := H_then.free 1
            simp only [List.set_cons_zero, List.set_cons_succ, List.getElem?_cons_zero, List.getElem?_cons_succ] at c_then_0 c_then_1
            have l_now := H_now.lt; have K_now := Lib.hid H_now; clear H_now
            have l_worst := H_worst.lt; have K_worst := Lib.hid H_worst; clear H_worst
            have l_x := H_x.lt; have K_x := Lib.hid H_x; clear H_x
            have l_was := H_was.lt; have K_was := Lib.hid H_was; clear H_was
            have l_then := H_then.lt; have K_then := Lib.hid H_then; clear H_then
            have KB := Lib.hid HB; clear HB
            go_wp2_with fail
            go_roundw
            case rel => exact ⟨k + 1, ⟨nr, np⟩, ⟨wor, wop⟩, by omega, by go_num, K_now.out, K_worst.out, HI2.out, KB.out⟩
            case measure => simp [intOf]; omega
        ·
          have CP := promise_any ⟨nr, np⟩ ⟨br, bp⟩
          rw [hp] at CP
          simp only [Ba.cells] at CP
          have CP := Lib.hid CP
          by_cases i1 : i < 1
          ·
            clear hp
            have z_wr := HB.size
            have c_now_0 := H_now.cell 0; have f_now_0 := H_now.free 0; have c_now_1 := H_now.cell 1; have f_now_1 := H_now.free 1
            simp only [List.set_cons_zero, List.set_cons_succ, List.getElem?_cons_zero, List.getElem?_cons_succ] at c_now_0 c_now_1
            have c_worst_0 := H_worst.cell 0; have f_worst_0 := H_worst.free 0; have c_worst_1 := H_worst.cell 1; have f_worst_1 := H_worst.free 1
            simp only [List.set_cons_zero, List.set_cons_succ, List.getElem?_cons_zero, List.getElem?_cons_succ] at c_worst_0 c_worst_1
            have l_now := H_now.lt; have K_now := Lib.hid H_now; clear H_now
            have l_worst := H_worst.lt; have K_worst := Lib.hid H_worst; clear H_worst
            have KB := Lib.hid HB; clear HB
            go_wp2_with fail
            refine (CP.out _).mono ?_
            rintro e2 u2 ⟨rfl, hb⟩
            have H_now : Whole u2 (u1.heap.size) 23 _ := Whole.below ((K_now.out.alloc _).alloc _) hb (by first | omega | (simp; done) | (simp; omega) | (simp at *; omega))
            have H_worst : Whole u2 (u1.heap.size + 1) 23 _ := Whole.below ((K_worst.out.alloc _).alloc _) hb (by first | omega | (simp; done) | (simp; omega) | (simp at *; omega))
            have H_x : Whole u2 (wr.heap.size) 39 _ := Whole.below ((Whole.new _ 39 _).alloc _) hb (by first | omega | (simp; done) | (simp; omega) | (simp at *; omega))
            have H_was : Whole u2 (wr.heap.size + 1) 23 _ := Whole.below (wh_at wr 1 _ 23 _ (by simp)) hb (by first | omega | (simp; done) | (simp; omega) | (simp at *; omega))
            have HB := ((KB.out.alloc (by first | omega | (simp; done) | (simp; omega) | (simp at *; omega)) _).alloc (by first | omega | (simp; done) | (simp; omega) | (simp at *; omega)) _).trans (hb.mono (by first | omega | (simp; done) | (simp; omega) | (simp at *; omega)))
            clear c_now_0 c_now_1 f_now_0 f_now_1 c_worst_0 c_worst_1 f_worst_0 f_worst_1
            clear hb KB K_now K_worst
            have z_u2 := HB.size
            have c_now_0 := H_now.cell 0; have f_now_0 := H_now.free 0; have c_now_1 := H_now.cell 1; have f_now_1 := H_now.free 1
            simp only [List.set_cons_zero, List.set_cons_succ, List.getElem?_cons_zero, List.getElem?_cons_succ] at c_now_0 c_now_1
            have c_worst_0 := H_worst.cell 0; have f_worst_0 := H_worst.free 0; have c_worst_1 := H_worst.cell 1; have f_worst_1 := H_worst.free 1
            simp only [List.set_cons_zero, List.set_cons_succ, List.getElem?_cons_zero, List.getElem?_cons_succ] at c_worst_0 c_worst_1
            have c_x_0 := H_x.cell 0; have f_x_0 := H_x.free 0; have c_x_1 := H_x.cell 1; have f_x_1 := H_x.free 1; have c_x_2 := H_x.cell 2; have f_x_2 := H_x.free 2
            simp only [List.set_cons_zero, List.set_cons_succ, List.getElem?_cons_zero, List.getElem?_cons_succ] at c_x_0 c_x_1 c_x_2
            have c_was_0 := H_was.cell 0; have f_was_0 := H_was.free 0; have c_was_1 := H_was.cell 1; have f_was_1 := H_was.free 1
            simp only [List.set_cons_zero, List.set_cons_succ, List.getElem?_cons_zero, List.getElem?_cons_succ] at c_was_0 c_was_1
            have l_now := H_now.lt; have K_now := Lib.hid H_now; clear H_now
            have l_worst := H_worst.lt; have K_worst := Lib.hid H_worst; clear H_worst
            have l_x := H_x.lt; have K_x := Lib.hid H_x; clear H_x
            have l_was := H_was.lt; have K_was := Lib.hid H_was; clear H_was
            have KB := Lib.hid HB; clear HB
            go_wp2_with fail
            refine (LL.out ⟨_, _⟩ ⟨_, _⟩ _).mono ?_
            rintro e3 u3 ⟨rfl, hb⟩
            have H_now : Whole u3 (u1.heap.size) 23 _ := Whole.below ((K_now.out.set 0 _).set 1 _) hb (by first | omega | (simp; done) | (simp; omega) | (simp at *; omega))
            have H_worst : Whole u3 (u1.heap.size + 1) 23 _ := Whole.below ((K_worst.out.far (p := ⟨u1.heap.size, 0, none⟩) (by first | omega | (simp; done) | (simp; omega) | (simp at *; omega)) _).far (p := ⟨u1.heap.size, 1, none⟩) (by first | omega | (simp; done) | (simp; omega) | (simp at *; omega)) _) hb (by first | omega | (simp; done) | (simp; omega) | (simp at *; omega))
            have H_x : Whole u3 (wr.heap.size) 39 _ := Whole.below ((K_x.out.far (p := ⟨u1.heap.size, 0, none⟩) (by first | omega | (simp; done) | (simp; omega) | (simp at *; omega)) _).far (p := ⟨u1.heap.size, 1, none⟩) (by first | omega | (simp; done) | (simp; omega) | (simp at *; omega)) _) hb (by first | omega | (simp; done) | (simp; omega) | (simp at *; omega))
            have H_was : Whole u3 (wr.heap.size + 1) 23 _ := Whole.below ((K_was.out.far (p := ⟨u1.heap.size, 0, none⟩) (by first | omega | (simp; done) | (simp; omega) | (simp at *; omega)) _).far (p := ⟨u1.heap.size, 1, none⟩) (by first | omega | (simp; done) | (simp; omega) | (simp at *; omega)) _) hb (by first | omega | (simp; done) | (simp; omega) | (simp at *; omega))
            have HB := ((KB.out.setCell (p := ⟨u1.heap.size, 0, none⟩) (by first | omega | (simp; done) | (simp; omega) | (simp at *; omega)) _).setCell (p := ⟨u1.heap.size, 1, none⟩) (by first | omega | (simp; done) | (simp; omega) | (simp at *; omega)) _).trans (hb.mono (by first | omega | (simp; done) | (simp; omega) | (simp at *; omega)))
            clear c_now_0 c_now_1 f_now_0 f_now_1 c_worst_0 c_worst_1 f_worst_0 f_worst_1 c_x_0 c_x_1 c_x_2 f_x_0 f_x_1 f_x_2 c_was_0 c_was_1 f_was_0 f_was_1 l_now l_worst l_x l_was
            clear hb KB K_now K_worst K_x K_was
            have z_u3 := HB.size
            have c_now_0 := H_now.cell 0; have f_now_0 := H_now.free 0; have c_now_1 := H_now.cell 1; have f_now_1 := H_now.free 1
            simp only [List.set_cons_zero, List.set_cons_succ, List.getElem?_cons_zero, List.getElem?_cons_succ] at c_now_0 c_now_1
            have c_worst_0 := H_worst.cell 0; have f_worst_0 := H_worst.free 0; have c_worst_1 := H_worst.cell 1; have f_worst_1 := H_worst.free 1
            simp only [List.set_cons_zero, List.set_cons_succ, List.getElem?_cons_zero, List.getElem?_cons_succ] at c_worst_0 c_worst_1
            have c_x_0 := H_x.cell 0; have f_x_0 := H_x.free 0; have c_x_1 := H_x.cell 1; have f_x_1 := H_x.free 1; have c_x_2 := H_x.cell 2; have f_x_2 := H_x.free 2
            simp only [List.set_cons_zero, List.set_cons_succ, List.getElem?_cons_zero, List.getElem?_cons_succ] at c_x_0 c_x_1 c_x_2
            have c_was_0 := H_was.cell 0; have f_was_0 := H_was.free 0; have c_was_1 := H_was.cell 1; have f_was_1 := H_was.free 1
            simp only [List.set_cons_zero, List.set_cons_succ, List.getElem?_cons_zero, List.getElem?_cons_succ] at c_was_0 c_was_1
            have l_now := H_now.lt; have K_now := Lib.hid H_now; clear H_now
            have l_worst := H_worst.lt; have K_worst := Lib.hid H_worst; clear H_worst
            have l_x := H_x.lt; have K_x := Lib.hid H_x; clear H_x
            have l_was := H_was.lt; have K_was := Lib.hid H_was; clear H_was
            have KB := Lib.hid HB; clear HB
            go_wp2_with fail
            refine (LL.out ⟨_, _⟩ ⟨_, _⟩ _).mono ?_
            rintro e4 u4 ⟨rfl, hb⟩
            have H_now : Whole u4 (u1.heap.size) 23 _ := Whole.below K_now.out hb (by first | omega | (simp; done) | (simp; omega) | (simp at *; omega))
            have H_worst : Whole u4 (u1.heap.size + 1) 23 _ := Whole.below K_worst.out hb (by first | omega | (simp; done) | (simp; omega) | (simp at *; omega))
            have H_x : Whole u4 (wr.heap.size) 39 _ := Whole.below K_x.out hb (by first | omega | (simp; done) | (simp; omega) | (simp at *; omega))
            have H_was : Whole u4 (wr.heap.size + 1) 23 _ := Whole.below K_was.out hb (by first | omega | (simp; done) | (simp; omega) | (simp at *; omega))
            have HB := KB.out.trans (hb.mono (by first | omega | (simp; done) | (simp; omega) | (simp at *; omega)))
            clear c_now_0 c_now_1 f_now_0 f_now_1 c_worst_0 c_worst_1 f_worst_0 f_worst_1 c_x_0 c_x_1 c_x_2 f_x_0 f_x_1 f_x_2 c_was_0 c_was_1 f_was_0 f_was_1 l_now l_worst l_x l_was
            clear hb KB K_now K_worst K_x K_was
            have z_u4 := HB.size
            have c_now_0 := H_now.cell 0; have f_now_0 := H_now.free 0; have c_now_1 := H_now.cell 1; have f_now_1 := H_now.free 1
            simp only [List.set_cons_zero, List.set_cons_succ, List.getElem?_cons_zero, List.getElem?_cons_succ] at c_now_0 c_now_1
            have c_worst_0 := H_worst.cell 0; have f_worst_0 := H_worst.free 0; have c_worst_1 := H_worst.cell 1; have f_worst_1 := H_worst.free 1
            simp only [List.set_cons_zero, List.set_cons_succ, List.getElem?_cons_zero, List.getElem?_cons_succ] at c_worst_0 c_worst_1
            have c_x_0 := H_x.cell 0; have f_x_0 := H_x.free 0; have c_x_1 := H_x.cell 1; have f_x_1 := H_x.free 1; have c_x_2 := H_x.cell 2; have f_x_2 := H_x.free 2
            simp only [List.set_cons_zero, List.set_cons_succ, List.getElem?_cons_zero, List.getElem?_cons_succ] at c_x_0 c_x_1 c_x_2
            have c_was_0 := H_was.cell 0; have f_was_0 := H_was.free 0; have c_was_1 := H_was.cell 1; have f_was_1 := H_was.free 1
            simp only [List.set_cons_zero, List.set_cons_succ, List.getElem?_cons_zero, List.getElem?_cons_succ] at c_was_0 c_was_1
            have l_now := H_now.lt; have K_now := Lib.hid H_now; clear H_now
            have l_worst := H_worst.lt; have K_worst := Lib.hid H_worst; clear H_worst
            have l_x := H_x.lt; have K_x := Lib.hid H_x; clear H_x
            have l_was := H_was.lt; have K_was := Lib.hid H_was; clear H_was
            have KB := Lib.hid HB; clear HB
            go_wp2_with fail
            go_roundw
            case rel => exact ⟨k + 1, ⟨nr, np⟩, ⟨wor, wop⟩, by omega, by go_num, K_now.out, K_worst.out, HI2.out, KB.out⟩
            case measure => simp [intOf]; omega
          by_cases i2 : 1099511627776 < i
          ·
            clear hp
            have z_wr := HB.size
            have c_now_0 := H_now.cell 0; have f_now_0 := H_now.free 0; have c_now_1 := H_now.cell 1; have f_now_1 := H_now.free 1
            simp only [List.set_cons_zero, List.set_cons_succ, List.getElem?_cons_zero, List.getElem?_cons_succ] at c_now_0 c_now_1
            have c_worst_0 := H_worst.cell 0; have f_worst_0 := H_worst.free 0; have c_worst_1 := H_worst.cell 1; have f_worst_1 := H_worst.free 1
            simp only [List.set_cons_zero, List.set_cons_succ, List.getElem?_cons_zero, List.getElem?_cons_succ] at c_worst_0 c_worst_1
            have l_now := H_now.lt; have K_now := Lib.hid H_now; clear H_now
            have l_worst := H_worst.lt; have K_worst := Lib.hid H_worst; clear H_worst
            have KB := Lib.hid HB; clear HB
            go_wp2_with fail
            refine (CP.out _).mono ?_
            rintro e2 u2 ⟨rfl, hb⟩
            have H_now : Whole u2 (u1.heap.size) 23 _ := Whole.below ((K_now.out.alloc _).alloc _) hb (by first | omega | (simp; done) | (simp; omega) | (simp at *; omega))
            have H_worst : Whole u2 (u1.heap.size + 1) 23 _ := Whole.below ((K_worst.out.alloc _).alloc _) hb (by first | omega | (simp; done) | (simp; omega) | (simp at *; omega))
            have H_x : Whole u2 (wr.heap.size) 39 _ := Whole.below ((Whole.new _ 39 _).alloc _) hb (by first | omega | (simp; done) | (simp; omega) | (simp at *; omega))
            have H_was : Whole u2 (wr.heap.size + 1) 23 _ := Whole.below (wh_at wr 1 _ 23 _ (by simp)) hb (by first | omega | (simp; done) | (simp; omega) | (simp at *; omega))
            have HB := ((KB.out.alloc (by first | omega | (simp; done) | (simp; omega) | (simp at *; omega)) _).alloc (by first | omega | (simp; done) | (simp; omega) | (simp at *; omega)) _).trans (hb.mono (by first | omega | (simp; done) | (simp; omega) | (simp at *; omega)))
            clear c_now_0 c_now_1 f_now_0 f_now_1 c_worst_0 c_worst_1 f_worst_0 f_worst_1
            clear hb KB K_now K_worst
            have z_u2 := HB.size
            have c_now_0 := H_now.cell 0; have f_now_0 := H_now.free 0; have c_now_1 := H_now.cell 1; have f_now_1 := H_now.free 1
            simp only [List.set_cons_zero, List.set_cons_succ, List.getElem?_cons_zero, List.getElem?_cons_succ] at c_now_0 c_now_1
            have c_worst_0 := H_worst.cell 0; have f_worst_0 := H_worst.free 0; have c_worst_1 := H_worst.cell 1; have f_worst_1 := H_worst.free 1
            simp only [List.set_cons_zero, List.set_cons_succ, List.getElem?_cons_zero, List.getElem?_cons_succ] at c_worst_0 c_worst_1
            have c_x_0 := H_x.cell 0; have f_x_0 := H_x.free 0; have c_x_1 := H_x.cell 1; have f_x_1 := H_x.free 1; have c_x_2 := H_x.cell 2; have f_x_2 := H_x.free 2
            simp only [List.set_cons_zero, List.set_cons_succ, List.getElem?_cons_zero, List.getElem?_cons_succ] at c_x_0 c_x_1 c_x_2
            have c_was_0 := H_was.cell 0; have f_was_0 := H_was.free 0; have c_was_1 := H_was.cell 1; have f_was_1 := H_was.free 1
            simp only [List.set_cons_zero, List.set_cons_succ, List.getElem?_cons_zero, List.getElem?_cons_succ] at c_was_0 c_was_1
            have l_now := H_now.lt; have K_now := Lib.hid H_now; clear H_now
            have l_worst := H_worst.lt; have K_worst := Lib.hid H_worst; clear H_worst
            have l_x := H_x.lt; have K_x := Lib.hid H_x; clear H_x
            have l_was := H_was.lt; have K_was := Lib.hid H_was; clear H_was
            have KB := Lib.hid HB; clear HB
            go_wp2_with fail
            refine (LL.out ⟨_, _⟩ ⟨_, _⟩ _).mono ?_
            rintro e3 u3 ⟨rfl, hb⟩
            have H_now : Whole u3 (u1.heap.size) 23 _ := Whole.below ((K_now.out.set 0 _).set 1 _) hb (by first | omega | (simp; done) | (simp; omega) | (simp at *; omega))
            have H_worst : Whole u3 (u1.heap.size + 1) 23 _ := Whole.below ((K_worst.out.far (p := ⟨u1.heap.size, 0, none⟩) (by first | omega | (simp; done) | (simp; omega) | (simp at *; omega)) _).far (p := ⟨u1.heap.size, 1, none⟩) (by first | omega | (simp; done) | (simp; omega) | (simp at *; omega)) _) hb (by first | omega | (simp; done) | (simp; omega) | (simp at *; omega))
            have H_x : Whole u3 (wr.heap.size) 39 _ := Whole.below ((K_x.out.far (p := ⟨u1.heap.size, 0, none⟩) (by first | omega | (simp; done) | (simp; omega) | (simp at *; omega)) _).far (p := ⟨u1.heap.size, 1, none⟩) (by first | omega | (simp; done) | (simp; omega) | (simp at *; omega)) _) hb (by first | omega | (simp; done) | (simp; omega) | (simp at *; omega))
            have H_was : Whole u3 (wr.heap.size + 1) 23 _ := Whole.below ((K_was.out.far (p := ⟨u1.heap.size, 0, none⟩) (by first | omega | (simp; done) | (simp; omega) | (simp at *; omega)) _).far (p := ⟨u1.heap.size, 1, none⟩) (by first | omega | (simp; done) | (simp; omega) | (simp at *; omega)) _) hb (by first | omega | (simp; done) | (simp; omega) | (simp at *; omega))
            have HB := ((KB.out.setCell (p := ⟨u1.heap.size, 0, none⟩) (by first | omega | (simp; done) | (simp; omega) | (simp at *; omega)) _).setCell (p := ⟨u1.heap.size, 1, none⟩) (by first | omega | (simp; done) | (simp; omega) | (simp at *; omega)) _).trans (hb.mono (by first | omega | (simp; done) | (simp; omega) | (simp at *; omega)))
            clear c_now_0 c_now_1 f_now_0 f_now_1 c_worst_0 c_worst_1 f_worst_0 f_worst_1 c_x_0 c_x_1 c_x_2 f_x_0 f_x_1 f_x_2 c_was_0 c_was_1 f_was_0 f_was_1 l_now l_worst l_x l_was
            clear hb KB K_now K_worst K_x K_was
            have z_u3 := HB.size
            have c_now_0 := H_now.cell 0; have f_now_0 := H_now.free 0; have c_now_1 := H_now.cell 1; have f_now_1 := H_now.free 1
            simp only [List.set_cons_zero, List.set_cons_succ, List.getElem?_cons_zero, List.getElem?_cons_succ] at c_now_0 c_now_1
            have c_worst_0 := H_worst.cell 0; have f_worst_0 := H_worst.free 0; have c_worst_1 := H_worst.cell 1; have f_worst_1 := H_worst.free 1
            simp only [List.set_cons_zero, List.set_cons_succ, List.getElem?_cons_zero, List.getElem?_cons_succ] at c_worst_0 c_worst_1
            have c_x_0 := H_x.cell 0; have f_x_0 := H_x.free 0; have c_x_1 := H_x.cell 1; have f_x_1 := H_x.free 1; have c_x_2 := H_x.cell 2; have f_x_2 := H_x.free 2
            simp only [List.set_cons_zero, List.set_cons_succ, List.getElem?_cons_zero, List.getElem?_cons_succ] at c_x_0 c_x_1 c_x_2
            have c_was_0 := H_was.cell 0; have f_was_0 := H_was.free 0; have c_was_1 := H_was.cell 1; have f_was_1 := H_was.free 1
            simp only [List.set_cons_zero, List.set_cons_succ, List.getElem?_cons_zero, List.getElem?_cons_succ] at c_was_0 c_was_1
            have l_now := H_now.lt; have K_now := Lib.hid H_now; clear H_now
            have l_worst := H_worst.lt; have K_worst := Lib.hid H_worst; clear H_worst
            have l_x := H_x.lt; have K_x := Lib.hid H_x; clear H_x
            have l_was := H_was.lt; have K_was := Lib.hid H_was; clear H_was
            have KB := Lib.hid HB; clear HB
            go_wp2_with fail
            refine (LL.out ⟨_, _⟩ ⟨_, _⟩ _).mono ?_
            rintro e4 u4 ⟨rfl, hb⟩
            have H_now : Whole u4 (u1.heap.size) 23 _ := Whole.below K_now.out hb (by first | omega | (simp; done) | (simp; omega) | (simp at *; omega))
            have H_worst : Whole u4 (u1.heap.size + 1) 23 _ := Whole.below K_worst.out hb (by first | omega | (simp; done) | (simp; omega) | (simp at *; omega))
            have H_x : Whole u4 (wr.heap.size) 39 _ := Whole.below K_x.out hb (by first | omega | (simp; done) | (simp; omega) | (simp at *; omega))
            have H_was : Whole u4 (wr.heap.size + 1) 23 _ := Whole.below K_was.out hb (by first | omega | (simp; done) | (simp; omega) | (simp at *; omega))
            have HB := KB.out.trans (hb.mono (by first | omega | (simp; done) | (simp; omega) | (simp at *; omega)))
            clear c_now_0 c_now_1 f_now_0 f_now_1 c_worst_0 c_worst_1 f_worst_0 f_worst_1 c_x_0 c_x_1 c_x_2 f_x_0 f_x_1 f_x_2 c_was_0 c_was_1 f_was_0 f_was_1 l_now l_worst l_x l_was
            clear hb KB K_now K_worst K_x K_was
            have z_u4 := HB.size
            have c_now_0 := H_now.cell 0; have f_now_0 := H_now.free 0; have c_now_1 := H_now.cell 1; have f_now_1 := H_now.free 1
            simp only [List.set_cons_zero, List.set_cons_succ, List.getElem?_cons_zero, List.getElem?_cons_succ] at c_now_0 c_now_1
            have c_worst_0 := H_worst.cell 0; have f_worst_0 := H_worst.free 0; have c_worst_1 := H_worst.cell 1; have f_worst_1 := H_worst.free 1
            simp only [List.set_cons_zero, List.set_cons_succ, List.getElem?_cons_zero, List.getElem?_cons_succ] at c_worst_0 c_worst_1
            have c_x_0 := H_x.cell 0; have f_x_0 := H_x.free 0; have c_x_1 := H_x.cell 1; have f_x_1 := H_x.free 1; have c_x_2 := H_x.cell 2; have f_x_2 := H_x.free 2
            simp only [List.set_cons_zero, List.set_cons_succ, List.getElem?_cons_zero, List.getElem?_cons_succ] at c_x_0 c_x_1 c_x_2
            have c_was_0 := H_was.cell 0; have f_was_0 := H_was.free 0; have c_was_1 := H_was.cell 1; have f_was_1 := H_was.free 1
            simp only [List.set_cons_zero, List.set_cons_succ, List.getElem?_cons_zero, List.getElem?_cons_succ] at c_was_0 c_was_1
            have l_now := H_now.lt; have K_now := Lib.hid H_now; clear H_now
            have l_worst := H_worst.lt; have K_worst := Lib.hid H_worst; clear H_worst
            have l_x := H_x.lt; have K_x := Lib.hid H_x; clear H_x
            have l_was := H_was.lt; have K_was := Lib.hid H_was; clear H_was
            have KB := Lib.hid HB; clear HB
            go_wp2_with fail
            go_roundw
            case rel => exact ⟨k + 1, ⟨nr, np⟩, ⟨wor, wop⟩, by omega, by go_num, K_now.out, K_worst.out, HI2.out, KB.out⟩
            case measure => simp [intOf]; omega
          · have CA := accept_any ⟨nr, np⟩ ⟨br, bp⟩ s i
            have hww : (whereZ s i).2 ≠ 2 := by
              rcases where_cases s i with ⟨hb, _⟩ | ⟨_, _, h⟩ | ⟨_, _, _, h⟩ | ⟨_, _, _, h⟩
              · have : badW s i = false := badW_false.2 ⟨by omega, by omega, by omega, by omega⟩
                rw [this] at hb; cases hb
              all_goals rw [h]; decide
            rw [accept_ok_is hww hp] at CA
            have hd := done_ne (whereZ s i).1
            clear hww
            generalize doneZ (whereZ s i).1 = x at *
            obtain ⟨hd1, hd0⟩ := hd
            simp only [Ba.cells, if_true, if_false, Bool.false_eq_true] at CA
            have CA := Lib.hid CA
            clear hp
            have z_wr := HB.size
            have c_now_0 := H_now.cell 0; have f_now_0 := H_now.free 0; have c_now_1 := H_now.cell 1; have f_now_1 := H_now.free 1
            simp only [List.set_cons_zero, List.set_cons_succ, List.getElem?_cons_zero, List.getElem?_cons_succ] at c_now_0 c_now_1
            have c_worst_0 := H_worst.cell 0; have f_worst_0 := H_worst.free 0; have c_worst_1 := H_worst.cell 1; have f_worst_1 := H_worst.free 1
            simp only [List.set_cons_zero, List.set_cons_succ, List.getElem?_cons_zero, List.getElem?_cons_succ] at c_worst_0 c_worst_1
            have l_now := H_now.lt; have K_now := Lib.hid H_now; clear H_now
            have l_worst := H_worst.lt; have K_worst := Lib.hid H_worst; clear H_worst
            have KB := Lib.hid HB; clear HB
            go_wp2_with fail
            refine (CA.out _ (HT.out.below ((KB.out.alloc (by first | omega | (simp; done) | (simp; omega) | (simp at *; omega)) _).alloc (by first | omega | (simp; done) | (simp; omega) | (simp at *; omega)) _))).mono ?_
            rintro e2 u2 ⟨rfl, hb⟩
            have H_now : Whole u2 (u1.heap.size) 23 _ := Whole.below ((K_now.out.alloc _).alloc _) hb (by first | omega | (simp; done) | (simp; omega) | (simp at *; omega))
            have H_worst : Whole u2 (u1.heap.size + 1) 23 _ := Whole.below ((K_worst.out.alloc _).alloc _) hb (by first | omega | (simp; done) | (simp; omega) | (simp at *; omega))
            have H_x : Whole u2 (wr.heap.size) 39 _ := Whole.below ((Whole.new _ 39 _).alloc _) hb (by first | omega | (simp; done) | (simp; omega) | (simp at *; omega))
            have H_was : Whole u2 (wr.heap.size + 1) 23 _ := Whole.below (wh_at wr 1 _ 23 _ (by simp)) hb (by first | omega | (simp; done) | (simp; omega) | (simp at *; omega))
            have HB := ((KB.out.alloc (by first | omega | (simp; done) | (simp; omega) | (simp at *; omega)) _).alloc (by first | omega | (simp; done) | (simp; omega) | (simp at *; omega)) _).trans (hb.mono (by first | omega | (simp; done) | (simp; omega) | (simp at *; omega)))
            clear c_now_0 c_now_1 f_now_0 f_now_1 c_worst_0 c_worst_1 f_worst_0 f_worst_1
            clear hb KB K_now K_worst
            have z_u2 := HB.size
            have c_now_0 := H_now.cell 0; have f_now_0 := H_now.free 0; have c_now_1 := H_now.cell 1; have f_now_1 := H_now.free 1
            simp only [List.set_cons_zero, List.set_cons_succ, List.getElem?_cons_zero, List.getElem?_cons_succ] at c_now_0 c_now_1
            have c_worst_0 := H_worst.cell 0; have f_worst_0 := H_worst.free 0; have c_worst_1 := H_worst.cell 1; have f_worst_1 := H_worst.free 1
            simp only [List.set_cons_zero, List.set_cons_succ, List.getElem?_cons_zero, List.getElem?_cons_succ] at c_worst_0 c_worst_1
            have c_x_0 := H_x.cell 0; have f_x_0 := H_x.free 0; have c_x_1 := H_x.cell 1; have f_x_1 := H_x.free 1; have c_x_2 := H_x.cell 2; have f_x_2 := H_x.free 2
            simp only [List.set_cons_zero, List.set_cons_succ, List.getElem?_cons_zero, List.getElem?_cons_succ] at c_x_0 c_x_1 c_x_2
            have c_was_0 := H_was.cell 0; have f_was_0 := H_was.free 0; have c_was_1 := H_was.cell 1; have f_was_1 := H_was.free 1
            simp only [List.set_cons_zero, List.set_cons_succ, List.getElem?_cons_zero, List.getElem?_cons_succ] at c_was_0 c_was_1
            have l_now := H_now.lt; have K_now := Lib.hid H_now; clear H_now
            have l_worst := H_worst.lt; have K_worst := Lib.hid H_worst; clear H_worst
            have l_x := H_x.lt; have K_x := Lib.hid H_x; clear H_x
            have l_was := H_was.lt; have K_was := Lib.hid H_was; clear H_was
            have KB := Lib.hid HB; clear HB
            go_wp2_with fail
            refine (LL.out ⟨_, _⟩ ⟨_, _⟩ _).mono ?_
            rintro e3 u3 ⟨rfl, hb⟩
            have H_now : Whole u3 (u1.heap.size) 23 _ := Whole.below (((K_now.out.set 0 _).set 1 _).alloc _) hb (by first | omega | (simp; done) | (simp; omega) | (simp at *; omega))
            have H_worst : Whole u3 (u1.heap.size + 1) 23 _ := Whole.below (((K_worst.out.far (p := ⟨u1.heap.size, 0, none⟩) (by first | omega | (simp; done) | (simp; omega) | (simp at *; omega)) _).far (p := ⟨u1.heap.size, 1, none⟩) (by first | omega | (simp; done) | (simp; omega) | (simp at *; omega)) _).alloc _) hb (by first | omega | (simp; done) | (simp; omega) | (simp at *; omega))
            have H_x : Whole u3 (wr.heap.size) 39 _ := Whole.below (((K_x.out.far (p := ⟨u1.heap.size, 0, none⟩) (by first | omega | (simp; done) | (simp; omega) | (simp at *; omega)) _).far (p := ⟨u1.heap.size, 1, none⟩) (by first | omega | (simp; done) | (simp; omega) | (simp at *; omega)) _).alloc _) hb (by first | omega | (simp; done) | (simp; omega) | (simp at *; omega))
            have H_was : Whole u3 (wr.heap.size + 1) 23 _ := Whole.below (((K_was.out.far (p := ⟨u1.heap.size, 0, none⟩) (by first | omega | (simp; done) | (simp; omega) | (simp at *; omega)) _).far (p := ⟨u1.heap.size, 1, none⟩) (by first | omega | (simp; done) | (simp; omega) | (simp at *; omega)) _).alloc _) hb (by first | omega | (simp; done) | (simp; omega) | (simp at *; omega))
            have H_then : Whole u3 (u2.heap.size) 23 _ := Whole.below (wh_at0 u2 _ 23 _ (by simp [size_set])) hb (by first | omega | (simp; done) | (simp; omega) | (simp at *; omega))
            have HB := (((KB.out.setCell (p := ⟨u1.heap.size, 0, none⟩) (by first | omega | (simp; done) | (simp; omega) | (simp at *; omega)) _).setCell (p := ⟨u1.heap.size, 1, none⟩) (by first | omega | (simp; done) | (simp; omega) | (simp at *; omega)) _).alloc (by first | omega | (simp; done) | (simp; omega) | (simp at *; omega)) _).trans (hb.mono (by first | omega | (simp; done) | (simp; omega) | (simp at *; omega)))
            clear c_now_0 c_now_1 f_now_0 f_now_1 c_worst_0 c_worst_1 f_worst_0 f_worst_1 c_x_0 c_x_1 c_x_2 f_x_0 f_x_1 f_x_2 c_was_0 c_was_1 f_was_0 f_was_1
            clear hb KB K_now K_worst K_x K_was
            have z_u3 := HB.size
            have c_now_0 := H_now.cell 0; have f_now_0 := H_now.free 0; have c_now_1 := H_now.cell 1; have f_now_1 := H_now.free 1
            simp only [List.set_cons_zero, List.set_cons_succ, List.getElem?_cons_zero, List.getElem?_cons_succ] at c_now_0 c_now_1
            have c_worst_0 := H_worst.cell 0; have f_worst_0 := H_worst.free 0; have c_worst_1 := H_worst.cell 1; have f_worst_1 := H_worst.free 1
            simp only [List.set_cons_zero, List.set_cons_succ, List.getElem?_cons_zero, List.getElem?_cons_succ] at c_worst_0 c_worst_1
            have c_x_0 := H_x.cell 0; have f_x_0 := H_x.free 0; have c_x_1 := H_x.cell 1; have f_x_1 := H_x.free 1; have c_x_2 := H_x.cell 2; have f_x_2 := H_x.free 2
            simp only [List.set_cons_zero, List.set_cons_succ, List.getElem?_cons_zero, List.getElem?_cons_succ] at c_x_0 c_x_1 c_x_2
            have c_was_0 := H_was.cell 0; have f_was_0 := H_was.free 0; have c_was_1 := H_was.cell 1; have f_was_1 := H_was.free 1
            simp only [List.set_cons_zero, List.set_cons_succ, List.getElem?_cons_zero, List.getElem?_cons_succ] at c_was_0 c_was_1
            have c_then_0 := H_then.cell 0; have f_then_0 := H_then.free 0; have c_then_1 := H_then.cell 1; have f_then_1 := H_then.free 1
            simp only [List.set_cons_zero, List.set_cons_succ, List.getElem?_cons_zero, List.getElem?_cons_succ] at c_then_0 c_then_1
            have l_now := H_now.lt; have K_now := Lib.hid H_now; clear H_now
            have l_worst := H_worst.lt; have K_worst := Lib.hid H_worst; clear H_worst
            have l_x := H_x.lt; have K_x := Lib.hid H_x; clear H_x
            have l_was := H_was.lt; have K_was := Lib.hid H_was; clear H_was
            have l_then := H_then.lt; have K_then := Lib.hid H_then; clear H_then
            have KB := Lib.hid HB; clear HB
            go_wp2_with fail
            refine (LL.out ⟨_, _⟩ ⟨_, _⟩ _).mono ?_
            rintro e4 u4 ⟨rfl, hb⟩
            have H_now : Whole u4 (u1.heap.size) 23 _ := Whole.below K_now.out hb (by first | omega | (simp; done) | (simp; omega) | (simp at *; omega))
            have H_worst : Whole u4 (u1.heap.size + 1) 23 _ := Whole.below K_worst.out hb (by first | omega | (simp; done) | (simp; omega) | (simp at *; omega))
            have H_x : Whole u4 (wr.heap.size) 39 _ := Whole.below K_x.out hb (by first | omega | (simp; done) | (simp; omega) | (simp at *; omega))
            have H_was : Whole u4 (wr.heap.size + 1) 23 _ := Whole.below K_was.out hb (by first | omega | (simp; done) | (simp; omega) | (simp at *; omega))
            have H_then : Whole u4 (u2.heap.size) 23 _ := Whole.below K_then.out hb (by first | omega | (simp; done) | (simp; omega) | (simp at *; omega))
            have HB := KB.out.trans (hb.mono (by first | omega | (simp; done) | (simp; omega) | (simp at *; omega)))
            clear c_now_0 c_now_1 f_now_0 f_now_1 c_worst_0 c_worst_1 f_worst_0 f_worst_1 c_x_0 c_x_1 c_x_2 f_x_0 f_x_1 f_x_2 c_was_0 c_was_1 f_was_0 f_was_1 c_then_0 c_then_1 f_then_0 f_then_1 l_now l_worst l_x l_was l_then
            clear hb KB K_now K_worst K_x K_was K_then
            have z_u4 := HB.size
            have c_now_0 := H_now.cell 0; have f_now_0 := H_now.free 0; have c_now_1 := H_now.cell 1; have f_now_1 := H_now.free 1
            simp only [List.set_cons_zero, List.set_cons_succ, List.getElem?_cons_zero, List.getElem?_cons_succ] at c_now_0 c_now_1
            have c_worst_0 := H_worst.cell 0; have f_worst_0 := H_worst.free 0; have c_worst_1 := H_worst.cell 1; have f_worst_1 := H_worst.free 1
            simp only [List.set_cons_zero, List.set_cons_succ, List.getElem?_cons_zero, List.getElem?_cons_succ] at c_worst_0 c_worst_1
            have c_x_0 := H_x.cell 0; have f_x_0 := H_x.free 0; have c_x_1 := H_x.cell 1; have f_x_1 := H_x.free 1; have c_x_2 := H_x.cell 2; have f_x_2 := H_x.free 2
            simp only [List.set_cons_zero, List.set_cons_succ, List.getElem?_cons_zero, List.getElem?_cons_succ] at c_x_0 c_x_1 c_x_2
            have c_was_0 := H_was.cell 0; have f_was_0 := H_was.free 0; have c_was_1 := H_was.cell 1; have f_was_1 := H_was.free 1
            simp only [List.set_cons_zero, List.set_cons_succ, List.getElem?_cons_zero, List.getElem?_cons_succ] at c_was_0 c_was_1
            have c_then_0 := H_then.cell 0; have f_then_0 := H_then.free 0; have c_then_1 := H_then.cell 1; have f_then_1 := H_then.free 1
            simp only [List.set_cons_zero, List.set_cons_succ, List.getElem?_cons_zero, List.getElem?_cons_succ] at c_then_0 c_then_1
            have l_now := H_now.lt; have K_now := Lib.hid H_now; clear H_now
            have l_worst := H_worst.lt; have K_worst := Lib.hid H_worst; clear H_worst
            have l_x := H_x.lt; have K_x := Lib.hid H_x; clear H_x
            have l_was := H_was.lt; have K_was := Lib.hid H_was; clear H_was
            have l_then := H_then.lt; have K_then := Lib.hid H_then; clear H_then
            have KB := Lib.hid HB; clear HB
            go_wp2_with fail
            go_roundw
            case rel => exact ⟨k + 1, ⟨nr, np⟩, ⟨wor, wop⟩, by omega, by go_num, K_now.out, K_worst.out, HI2.out, KB.out⟩
            case measure => simp [intOf]; omega
      · have hz' : sameB ⟨br, bp⟩ ⟨0, 0⟩ = false := same_not.2 hz
        have q : sameB ⟨nr, np⟩ ⟨br, bp⟩ = false := same_not.2 (by intro e; rw [e, less_self] at hl; cases hl)
        clear hz
        cases hwb : lessB ⟨wor, wop⟩ ⟨br, bp⟩
        · have HI2 := HI
          have CP := promise_any ⟨nr, np⟩ ⟨br, bp⟩
          rw [hp] at CP
          simp only [Ba.cells] at CP
          have CP := Lib.hid CP
          by_cases i1 : i < 1
          ·
            clear hp
            have z_wr := HB.size
            have c_now_0 := H_now.cell 0; have f_now_0 := H_now.free 0; have c_now_1 := H_now.cell 1; have f_now_1 := H_now.free 1
            simp only [List.set_cons_zero, List.set_cons_succ, List.getElem?_cons_zero, List.getElem?_cons_succ] at c_now_0 c_now_1
            have c_worst_0 := H_worst.cell 0; have f_worst_0 := H_worst.free 0; have c_worst_1 := H_worst.cell 1; have f_worst_1 := H_worst.free 1
            simp only [List.set_cons_zero, List.set_cons_succ, List.getElem?_cons_zero, List.getElem?_cons_succ] at c_worst_0 c_worst_1
            have l_now := H_now.lt; have K_now := Lib.hid H_now; clear H_now
            have l_worst := H_worst.lt; have K_worst := Lib.hid H_worst; clear H_worst
            have KB := Lib.hid HB; clear HB
            go_wp2_with fail
            refine (CP.out _).mono ?_
            rintro e2 u2 ⟨rfl, hb⟩
            have H_now : Whole u2 (u1.heap.size) 23 _ := Whole.below ((K_now.out.alloc _).alloc _) hb (by first | omega | (simp; done) | (simp; omega) | (simp at *; omega))
            have H_worst : Whole u2 (u1.heap.size + 1) 23 _ := Whole.below ((K_worst.out.alloc _).alloc _) hb (by first | omega | (simp; done) | (simp; omega) | (simp at *; omega))
            have H_x : Whole u2 (wr.heap.size) 39 _ := Whole.below ((Whole.new _ 39 _).alloc _) hb (by first | omega | (simp; done) | (simp; omega) | (simp at *; omega))
            have H_was : Whole u2 (wr.heap.size + 1) 23 _ := Whole.below (wh_at wr 1 _ 23 _ (by simp)) hb (by first | omega | (simp; done) | (simp; omega) | (simp at *; omega))
            have HB := ((KB.out.alloc (by first | omega | (simp; done) | (simp; omega) | (simp at *; omega)) _).alloc (by first | omega | (simp; done) | (simp; omega) | (simp at *; omega)) _).trans (hb.mono (by first | omega | (simp; done) | (simp; omega) | (simp at *; omega)))
            clear c_now_0 c_now_1 f_now_0 f_now_1 c_worst_0 c_worst_1 f_worst_0 f_worst_1
            clear hb KB K_now K_worst
            have z_u2 := HB.size
            have c_now_0 := H_now.cell 0; have f_now_0 := H_now.free 0; have c_now_1 := H_now.cell 1; have f_now_1 := H_now.free 1
            simp only [List.set_cons_zero, List.set_cons_succ, List.getElem?_cons_zero, List.getElem?_cons_succ] at c_now_0 c_now_1
            have c_worst_0 := H_worst.cell 0; have f_worst_0 := H_worst.free 0; have c_worst_1 := H_worst.cell 1; have f_worst_1 := H_worst.free 1
            simp only [List.set_cons_zero, List.set_cons_succ, List.getElem?_cons_zero, List.getElem?_cons_succ] at c_worst_0 c_worst_1
            have c_x_0 := H_x.cell 0; have f_x_0 := H_x.free 0; have c_x_1 := H_x.cell 1; have f_x_1 := H_x.free 1; have c_x_2 := H_x.cell 2; have f_x_2 := H_x.free 2
            simp only [List.set_cons_zero, List.set_cons_succ, List.getElem?_cons_zero, List.getElem?_cons_succ] at c_x_0 c_x_1 c_x_2
            have c_was_0 := H_was.cell 0; have f_was_0 := H_was.free 0; have c_was_1 := H_was.cell 1; have f_was_1 := H_was.free 1
            simp only [List.set_cons_zero, List.set_cons_succ, List.getElem?_cons_zero, List.getElem?_cons_succ] at c_was_0 c_was_1
            have l_now := H_now.lt; have K_now := Lib.hid H_now; clear H_now
            have l_worst := H_worst.lt; have K_worst := Lib.hid H_worst; clear H_worst
            have l_x := H_x.lt; have K_x := Lib.hid H_x; clear H_x
            have l_was := H_was.lt; have K_was := Lib.hid H_was; clear H_was
            have KB := Lib.hid HB; clear HB
            go_wp2_with fail
            refine (LL.out ⟨_, _⟩ ⟨_, _⟩ _).mono ?_
            rintro e3 u3 ⟨rfl, hb⟩
            have H_now : Whole u3 (u1.heap.size) 23 _ := Whole.below ((K_now.out.set 0 _).set 1 _) hb (by first | omega | (simp; done) | (simp; omega) | (simp at *; omega))
            have H_worst : Whole u3 (u1.heap.size + 1) 23 _ := Whole.below ((K_worst.out.far (p := ⟨u1.heap.size, 0, none⟩) (by first | omega | (simp; done) | (simp; omega) | (simp at *; omega)) _).far (p := ⟨u1.heap.size, 1, none⟩) (by first | omega | (simp; done) | (simp; omega) | (simp at *; omega)) _) hb (by first | omega | (simp; done) | (simp; omega) | (simp at *; omega))
            have H_x : Whole u3 (wr.heap.size) 39 _ := Whole.below ((K_x.out.far (p := ⟨u1.heap.size, 0, none⟩) (by first | omega | (simp; done) | (simp; omega) | (simp at *; omega)) _).far (p := ⟨u1.heap.size, 1, none⟩) (by first | omega | (simp; done) | (simp; omega) | (simp at *; omega)) _) hb (by first | omega | (simp; done) | (simp; omega) | (simp at *; omega))
            have H_was : Whole u3 (wr.heap.size + 1) 23 _ := Whole.below ((K_was.out.far (p := ⟨u1.heap.size, 0, none⟩) (by first | omega | (simp; done) | (simp; omega) | (simp at *; omega)) _).far (p := ⟨u1.heap.size, 1, none⟩) (by first | omega | (simp; done) | (simp; omega) | (simp at *; omega)) _) hb (by first | omega | (simp; done) | (simp; omega) | (simp at *; omega))
            have HB := ((KB.out.setCell (p := ⟨u1.heap.size, 0, none⟩) (by first | omega | (simp; done) | (simp; omega) | (simp at *; omega)) _).setCell (p := ⟨u1.heap.size, 1, none⟩) (by first | omega | (simp; done) | (simp; omega) | (simp at *; omega)) _).trans (hb.mono (by first | omega | (simp; done) | (simp; omega) | (simp at *; omega)))
            clear c_now_0 c_now_1 f_now_0 f_now_1 c_worst_0 c_worst_1 f_worst_0 f_worst_1 c_x_0 c_x_1 c_x_2 f_x_0 f_x_1 f_x_2 c_was_0 c_was_1 f_was_0 f_was_1 l_now l_worst l_x l_was
            clear hb KB K_now K_worst K_x K_was
            have z_u3 := HB.size
            have c_now_0 := H_now.cell 0; have f_now_0 := H_now.free 0; have c_now_1 := H_now.cell 1; have f_now_1 := H_now.free 1
            simp only [List.set_cons_zero, List.set_cons_succ, List.getElem?_cons_zero, List.getElem?_cons_succ] at c_now_0 c_now_1
            have c_worst_0 := H_worst.cell 0; have f_worst_0 := H_worst.free 0; have c_worst_1 := H_worst.cell 1; have f_worst_1 := H_worst.free 1
            simp only [List.set_cons_zero, List.set_cons_succ, List.getElem?_cons_zero, List.getElem?_cons_succ] at c_worst_0 c_worst_1
            have c_x_0 := H_x.cell 0; have f_x_0 := H_x.free 0; have c_x_1 := H_x.cell 1; have f_x_1 := H_x.free 1; have c_x_2 := H_x.cell 2; have f_x_2 := H_x.free 2
            simp only [List.set_cons_zero, List.set_cons_succ, List.getElem?_cons_zero, List.getElem?_cons_succ] at c_x_0 c_x_1 c_x_2
            have c_was_0 := H_was.cell 0; have f_was_0 := H_was.free 0; have c_was_1 := H_was.cell 1; have f_was_1 := H_was.free 1
            simp only [List.set_cons_zero, List.set_cons_succ, List.getElem?_cons_zero, List.getElem?_cons_succ] at c_was_0 c_was_1
            have l_now := H_now.lt; have K_now := Lib.hid H_now; clear H_now
            have l_worst := H_worst.lt; have K_worst := Lib.hid H_worst; clear H_worst
            have l_x := H_x.lt; have K_x := Lib.hid H_x; clear H_x
            have l_was := H_was.lt; have K_was := Lib.hid H_was; clear H_was
            have KB := Lib.hid HB; clear HB
            go_wp2_with fail
            refine (LL.out ⟨_, _⟩ ⟨_, _⟩ _).mono ?_
            rintro e4 u4 ⟨rfl, hb⟩
            have H_now : Whole u4 (u1.heap.size) 23 _ := Whole.below K_now.out hb (by first | omega | (simp; done) | (simp; omega) | (simp at *; omega))
            have H_worst : Whole u4 (u1.heap.size + 1) 23 _ := Whole.below K_worst.out hb (by first | omega | (simp; done) | (simp; omega) | (simp at *; omega))
            have H_x : Whole u4 (wr.heap.size) 39 _ := Whole.below K_x.out hb (by first | omega | (simp; done) | (simp; omega) | (simp at *; omega))
            have H_was : Whole u4 (wr.heap.size + 1) 23 _ := Whole.below K_was.out hb (by first | omega | (simp; done) | (simp; omega) | (simp at *; omega))
            have HB := KB.out.trans (hb.mono (by first | omega | (simp; done) | (simp; omega) | (simp at *; omega)))
            clear c_now_0 c_now_1 f_now_0 f_now_1 c_worst_0 c_worst_1 f_worst_0 f_worst_1 c_x_0 c_x_1 c_x_2 f_x_0 f_x_1 f_x_2 c_was_0 c_was_1 f_was_0 f_was_1 l_now l_worst l_x l_was
            clear hb KB K_now K_worst K_x K_was
            have z_u4 := HB.size
            have c_now_0 := H_now.cell 0; have f_now_0 := H_now.free 0; have c_now_1 := H_now.cell 1; have f_now_1 := H_now.free 1
            simp only [List.set_cons_zero, List.set_cons_succ, List.getElem?_cons_zero, List.getElem?_cons_succ] at c_now_0 c_now_1
            have c_worst_0 := H_worst.cell 0; have f_worst_0 := H_worst.free 0; have c_worst_1 := H_worst.cell 1; have f_worst_1 := H_worst.free 1
            simp only [List.set_cons_zero, List.set_cons_succ, List.getElem?_cons_zero, List.getElem?_cons_succ] at c_worst_0 c_worst_1
            have c_x_0 := H_x.cell 0; have f_x_0 := H_x.free 0; have c_x_1 := H_x.cell 1; have f_x_1 := H_x.free 1; have c_x_2 := H_x.cell 2; have f_x_2 := H_x.free 2
            simp only [List.set_cons_zero, List.set_cons_succ, List.getElem?_cons_zero, List.getElem?_cons_succ] at c_x_0 c_x_1 c_x_2
            have c_was_0 := H_was.cell 0; have f_was_0 := H_was.free 0; have c_was_1 := H_was.cell 1; have f_was_1 := H_was.free 1
            simp only [List.set_cons_zero, List.set_cons_succ, List.getElem?_cons_zero, List.getElem?_cons_succ] at c_was_0 c_was_1
            have l_now := H_now.lt; have K_now := Lib.hid H_now; clear H_now
            have l_worst := H_worst.lt; have K_worst := Lib.hid H_worst; clear H_worst
            have l_x := H_x.lt; have K_x := Lib.hid H_x; clear H_x
            have l_was := H_was.lt; have K_was := Lib.hid H_was; clear H_was
            have KB := Lib.hid HB; clear HB
            go_wp2_with fail
            go_roundw
            case rel => exact ⟨k + 1, ⟨nr, np⟩, ⟨wor, wop⟩, by omega, by go_num, K_now.out, K_worst.out, HI2.out, KB.out⟩
            case measure => simp [intOf]; omega
          by_cases i2 : 1099511627776 < i
          ·
            clear hp
            have z_wr := HB.size
            have c_now_0 := H_now.cell 0; have f_now_0 := H_now.free 0; have c_now_1 := H_now.cell 1; have f_now_1 := H_now.free 1
            simp only [List.set_cons_zero, List.set_cons_succ, List.getElem?_cons_zero, List.getElem?_cons_succ] at c_now_0 c_now_1
            have c_worst_0 := H_worst.cell 0; have f_worst_0 := H_worst.free 0; have c_worst_1 := H_worst.cell 1; have f_worst_1 := H_worst.free 1
            simp only [List.set_cons_zero, List.set_cons_succ, List.getElem?_cons_zero, List.getElem?_cons_succ] at c_worst_0 c_worst_1
            have l_now := H_now.lt; have K_now := Lib.hid H_now; clear H_now
            have l_worst := H_worst.lt; have K_worst := Lib.hid H_worst; clear H_worst
            have KB := Lib.hid HB; clear HB
            go_wp2_with fail
            refine (CP.out _).mono ?_
            rintro e2 u2 ⟨rfl, hb⟩
            have H_now : Whole u2 (u1.heap.size) 23 _ := Whole.below ((K_now.out.alloc _).alloc _) hb (by first | omega | (simp; done) | (simp; omega) | (simp at *; omega))
            have H_worst : Whole u2 (u1.heap.size + 1) 23 _ := Whole.below ((K_worst.out.alloc _).alloc _) hb (by first | omega | (simp; done) | (simp; omega) | (simp at *; omega))
            have H_x : Whole u2 (wr.heap.size) 39 _ := Whole.below ((Whole.new _ 39 _).alloc _) hb (by first | omega | (simp; done) | (simp; omega) | (simp at *; omega))
            have H_was : Whole u2 (wr.heap.size + 1) 23 _ := Whole.below (wh_at wr 1 _ 23 _ (by simp)) hb (by first | omega | (simp; done) | (simp; omega) | (simp at *; omega))
            have HB := ((KB.out.alloc (by first | omega | (simp; done) | (simp; omega) | (simp at *; omega)) _).alloc (by first | omega | (simp; done) | (simp; omega) | (simp at *; omega)) _).trans (hb.mono (by first | omega | (simp; done) | (simp; omega) | (simp at *; omega)))
            clear c_now_0 c_now_1 f_now_0 f_now_1 c_worst_0 c_worst_1 f_worst_0 f_worst_1
            clear hb KB K_now K_worst
            have z_u2 := HB.size
            have c_now_0 := H_now.cell 0; have f_now_0 := H_now.free 0; have c_now_1 := H_now.cell 1; have f_now_1 := H_now.free 1
            simp only [List.set_cons_zero, List.set_cons_succ, List.getElem?_cons_zero, List.getElem?_cons_succ] at c_now_0 c_now_1
            have c_worst_0 := H_worst.cell 0; have f_worst_0 := H_worst.free 0; have c_worst_1 := H_worst.cell 1; have f_worst_1 := H_worst.free 1
            simp only [List.set_cons_zero, List.set_cons_succ, List.getElem?_cons_zero, List.getElem?_cons_succ] at c_worst_0 c_worst_1
            have c_x_0 := H_x.cell 0; have f_x_0 := H_x.free 0; have c_x_1 := H_x.cell 1; have f_x_1 := H_x.free 1; have c_x_2 := H_x.cell 2; have f_x_2 := H_x.free 2
            simp only [List.set_cons_zero, List.set_cons_succ, List.getElem?_cons_zero, List.getElem?_cons_succ] at c_x_0 c_x_1 c_x_2
            have c_was_0 := H_was.cell 0; have f_was_0 := H_was.free 0; have c_was_1 := H_was.cell 1; have f_was_1 := H_was.free 1
            simp only [List.set_cons_zero, List.set_cons_succ, List.getElem?_cons_zero, List.getElem?_cons_succ] at c_was_0 c_was_1
            have l_now := H_now.lt; have K_now := Lib.hid H_now; clear H_now
            have l_worst := H_worst.lt; have K_worst := Lib.hid H_worst; clear H_worst
            have l_x := H_x.lt; have K_x := Lib.hid H_x; clear H_x
            have l_was := H_was.lt; have K_was := Lib.hid H_was; clear H_was
            have KB := Lib.hid HB; clear HB
            go_wp2_with fail
            refine (LL.out ⟨_, _⟩ ⟨_, _⟩ _).mono ?_
            rintro e3 u3 ⟨rfl, hb⟩
            have H_now : Whole u3 (u1.heap.size) 23 _ := Whole.below ((K_now.out.set 0 _).set 1 _) hb (by first | omega | (simp; done) | (simp; omega) | (simp at *; omega))
            have H_worst : Whole u3 (u1.heap.size + 1) 23 _ := Whole.below ((K_worst.out.far (p := ⟨u1.heap.size, 0, none⟩) (by first | omega | (simp; done) | (simp; omega) | (simp at *; omega)) _).far (p := ⟨u1.heap.size, 1, none⟩) (by first | omega | (simp; done) | (simp; omega) | (simp at *; omega)) _) hb (by first | omega | (simp; done) | (simp; omega) | (simp at *; omega))
            have H_x : Whole u3 (wr.heap.size) 39 _ := Whole.below ((K_x.out.far (p := ⟨u1.heap.size, 0, none⟩) (by first | omega | (simp; done) | (simp; omega) | (simp at *; omega)) _).far (p := ⟨u1.heap.size, 1, none⟩) (by first | omega | (simp; done) | (simp; omega) | (simp at *; omega)) _) hb (by first | omega | (simp; done) | (simp; omega) | (simp at *; omega))
            have H_was : Whole u3 (wr.heap.size + 1) 23 _ := Whole.below ((K_was.out.far (p := ⟨u1.heap.size, 0, none⟩) (by first | omega | (simp; done) | (simp; omega) | (simp at *; omega)) _).far (p := ⟨u1.heap.size, 1, none⟩) (by first | omega | (simp; done) | (simp; omega) | (simp at *; omega)) _) hb (by first | omega | (simp; done) | (simp; omega) | (simp at *; omega))
            have HB := ((KB.out.setCell (p := ⟨u1.heap.size, 0, none⟩) (by first | omega | (simp; done) | (simp; omega) | (simp at *; omega)) _).setCell (p := ⟨u1.heap.size, 1, none⟩) (by first | omega | (simp; done) | (simp; omega) | (simp at *; omega)) _).trans (hb.mono (by first | omega | (simp; done) | (simp; omega) | (simp at *; omega)))
            clear c_now_0 c_now_1 f_now_0 f_now_1 c_worst_0 c_worst_1 f_worst_0 f_worst_1 c_x_0 c_x_1 c_x_2 f_x_0 f_x_1 f_x_2 c_was_0 c_was_1 f_was_0 f_was_1 l_now l_worst l_x l_was
            clear hb KB K_now K_worst K_x K_was
            have z_u3 := HB.size
            have c_now_0 := H_now.cell 0; have f_now_0 := H_now.free 0; have c_now_1 := H_now.cell 1; have f_now_1 := H_now.free 1
            simp only [List.set_cons_zero, List.set_cons_succ, List.getElem?_cons_zero, List.getElem?_cons_succ] at c_now_0 c_now_1
            have c_worst_0 := H_worst.cell 0; have f_worst_0 := H_worst.free 0; have c_worst_1 := H_worst.cell 1; have f_worst_1 := H_worst.free 1
            simp only [List.set_cons_zero, List.set_cons_succ, List.getElem?_cons_zero, List.getElem?_cons_succ] at c_worst_0 c_worst_1
            have c_x_0 := H_x.cell 0; have f_x_0 := H_x.free 0; have c_x_1 := H_x.cell 1; have f_x_1 := H_x.free 1; have c_x_2 := H_x.cell 2; have f_x_2 := H_x.free 2
            simp only [List.set_cons_zero, List.set_cons_succ, List.getElem?_cons_zero, List.getElem?_cons_succ] at c_x_0 c_x_1 c_x_2
            have c_was_0 := H_was.cell 0; have f_was_0 := H_was.free 0; have c_was_1 := H_was.cell 1; have f_was_1 := H_was.free 1
            simp only [List.set_cons_zero, List.set_cons_succ, List.getElem?_cons_zero, List.getElem?_cons_succ] at c_was_0 c_was_1
            have l_now := H_now.lt; have K_now := Lib.hid H_now; clear H_now
            have l_worst := H_worst.lt; have K_worst := Lib.hid H_worst; clear H_worst
            have l_x := H_x.lt; have K_x := Lib.hid H_x; clear H_x
            have l_was := H_was.lt; have K_was := Lib.hid H_was; clear H_was
            have KB := Lib.hid HB; clear HB
            go_wp2_with fail
            refine (LL.out ⟨_, _⟩ ⟨_, _⟩ _).mono ?_
            rintro e4 u4 ⟨rfl, hb⟩
            have H_now : Whole u4 (u1.heap.size) 23 _ := Whole.below K_now.out hb (by first | omega | (simp; done) | (simp; omega) | (simp at *; omega))
            have H_worst : Whole u4 (u1.heap.size + 1) 23 _ := Whole.below K_worst.out hb (by first | omega | (simp; done) | (simp; omega) | (simp at *; omega))
            have H_x : Whole u4 (wr.heap.size) 39 _ := Whole.below K_x.out hb (by first | omega | (simp; done) | (simp; omega) | (simp at *; omega))
            have H_was : Whole u4 (wr.heap.size + 1) 23 _ := Whole.below K_was.out hb (by first | omega | (simp; done) | (simp; omega) | (simp at *; omega))
            have HB := KB.out.trans (hb.mono (by first | omega | (simp; done) | (simp; omega) | (simp at *; omega)))
            clear c_now_0 c_now_1 f_now_0 f_now_1 c_worst_0 c_worst_1 f_worst_0 f_worst_1 c_x_0 c_x_1 c_x_2 f_x_0 f_x_1 f_x_2 c_was_0 c_was_1 f_was_0 f_was_1 l_now l_worst l_x l_was
            clear hb KB K_now K_worst K_x K_was
            have z_u4 := HB.size
            have c_now_0 := H_now.cell 0; have f_now_0 := H_now.free 0; have c_now_1 := H_now.cell 1; have f_now_1 := H_now.free 1
            simp only [List.set_cons_zero, List.set_cons_succ, List.getElem?_cons_zero, List.getElem?_cons_succ] at c_now_0 c_now_1
            have c_worst_0 := H_worst.cell 0; have f_worst_0 := H_worst.free 0; have c_worst_1 := H_worst.cell 1; have f_worst_1 := H_worst.free 1
            simp only [List.set_cons_zero, List.set_cons_succ, List.getElem?_cons_zero, List.getElem?_cons_succ] at c_worst_0 c_worst_1
            have c_x_0 := H_x.cell 0; have f_x_0 := H_x.free 0; have c_x_1 := H_x.cell 1; have f_x_1 := H_x.free 1; have c_x_2 := H_x.cell 2; have f_x_2 := H_x.free 2
            simp only [List.set_cons_zero, List.set_cons_succ, List.getElem?_cons_zero, List.getElem?_cons_succ] at c_x_0 c_x_1 c_x_2
            have c_was_0 := H_was.cell 0; have f_was_0 := H_was.free 0; have c_was_1 := H_was.cell 1; have f_was_1 := H_was.free 1
            simp only [List.set_cons_zero, List.set_cons_succ, List.getElem?_cons_zero, List.getElem?_cons_succ] at c_was_0 c_was_1
            have l_now := H_now.lt; have K_now := Lib.hid H_now; clear H_now
            have l_worst := H_worst.lt; have K_worst := Lib.hid H_worst; clear H_worst
            have l_x := H_x.lt; have K_x := Lib.hid H_x; clear H_x
            have l_was := H_was.lt; have K_was := Lib.hid H_was; clear H_was
            have KB := Lib.hid HB; clear HB
            go_wp2_with fail
            go_roundw
            case rel => exact ⟨k + 1, ⟨nr, np⟩, ⟨wor, wop⟩, by omega, by go_num, K_now.out, K_worst.out, HI2.out, KB.out⟩
            case measure => simp [intOf]; omega
          · have CA := accept_any ⟨nr, np⟩ ⟨br, bp⟩ s i
            have hww : (whereZ s i).2 ≠ 2 := by
              rcases where_cases s i with ⟨hb, _⟩ | ⟨_, _, h⟩ | ⟨_, _, _, h⟩ | ⟨_, _, _, h⟩
              · have : badW s i = false := badW_false.2 ⟨by omega, by omega, by omega, by omega⟩
                rw [this] at hb; cases hb
              all_goals rw [h]; decide
            rw [accept_ok_is hww hp] at CA
            have hd := done_ne (whereZ s i).1
            clear hww
            generalize doneZ (whereZ s i).1 = x at *
            obtain ⟨hd1, hd0⟩ := hd
            simp only [Ba.cells, if_true, if_false, Bool.false_eq_true] at CA
            have CA := Lib.hid CA
            clear hp
            have z_wr := HB.size
            have c_now_0 := H_now.cell 0; have f_now_0 := H_now.free 0; have c_now_1 := H_now.cell 1; have f_now_1 := H_now.free 1
            simp only [List.set_cons_zero, List.set_cons_succ, List.getElem?_cons_zero, List.getElem?_cons_succ] at c_now_0 c_now_1
            have c_worst_0 := H_worst.cell 0; have f_worst_0 := H_worst.free 0; have c_worst_1 := H_worst.cell 1; have f_worst_1 := H_worst.free 1
            simp only [List.set_cons_zero, List.set_cons_succ, List.getElem?_cons_zero, List.getElem?_cons_succ] at c_worst_0 c_worst_1
            have l_now := H_now.lt; have K_now := Lib.hid H_now; clear H_now
            have l_worst := H_worst.lt; have K_worst := Lib.hid H_worst; clear H_worst
            have KB := Lib.hid HB; clear HB
            go_wp2_with fail
            refine (CA.out _ (HT.out.below ((KB.out.alloc (by first | omega | (simp; done) | (simp; omega) | (simp at *; omega)) _).alloc (by first | omega | (simp; done) | (simp; omega) | (simp at *; omega)) _))).mono ?_
            rintro e2 u2 ⟨rfl, hb⟩
            have H_now : Whole u2 (u1.heap.size) 23 _ := Whole.below ((K_now.out.alloc _).alloc _) hb (by first | omega | (simp; done) | (simp; omega) | (simp at *; omega))
            have H_worst : Whole u2 (u1.heap.size + 1) 23 _ := Whole.below ((K_worst.out.alloc _).alloc _) hb (by first | omega | (simp; done) | (simp; omega) | (simp at *; omega))
            have H_x : Whole u2 (wr.heap.size) 39 _ := Whole.below ((Whole.new _ 39 _).alloc _) hb (by first | omega | (simp; done) | (simp; omega) | (simp at *; omega))
            have H_was : Whole u2 (wr.heap.size + 1) 23 _ := Whole.below (wh_at wr 1 _ 23 _ (by simp)) hb (by first | omega | (simp; done) | (simp; omega) | (simp at *; omega))
            have HB := ((KB.out.alloc (by first | omega | (simp; done) | (simp; omega) | (simp at *; omega)) _).alloc (by first | omega | (simp; done) | (simp; omega) | (simp at *; omega)) _).trans (hb.mono (by first | omega | (simp; done) | (simp; omega) | (simp at *; omega)))
            clear c_now_0 c_now_1 f_now_0 f_now_1 c_worst_0 c_worst_1 f_worst_0 f_worst_1
            clear hb KB K_now K_worst
            have z_u2 := HB.size
            have c_now_0 := H_now.cell 0; have f_now_0 := H_now.free 0; have c_now_1 := H_now.cell 1; have f_now_1 := H_now.free 1
            simp only [List.set_cons_zero, List.set_cons_succ, List.getElem?_cons_zero, List.getElem?_cons_succ] at c_now_0 c_now_1
            have c_worst_0 := H_worst.cell 0; have f_worst_0 := H_worst.free 0; have c_worst_1 := H_worst.cell 1; have f_worst_1 := H_worst.free 1
            simp only [List.set_cons_zero, List.set_cons_succ, List.getElem?_cons_zero, List.getElem?_cons_succ] at c_worst_0 c_worst_1
            have c_x_0 := H_x.cell 0; have f_x_0 := H_x.free 0; have c_x_1 := H_x.cell 1; have f_x_1 := H_x.free 1; have c_x_2 := H_x.cell 2; have f_x_2 := H_x.free 2
            simp only [List.set_cons_zero, List.set_cons_succ, List.getElem?_cons_zero, List.getElem?_cons_succ] at c_x_0 c_x_1 c_x_2
            have c_was_0 := H_was.cell 0; have f_was_0 := H_was.free 0; have c_was_1 := H_was.cell 1; have f_was_1 := H_was.free 1
            simp only [List.set_cons_zero, List.set_cons_succ, List.getElem?_cons_zero, List.getElem?_cons_succ] at c_was_0 c_was_1
            have l_now := H_now.lt; have K_now := Lib.hid H_now; clear H_now
            have l_worst := H_worst.lt; have K_worst := Lib.hid H_worst; clear H_worst
            have l_x := H_x.lt; have K_x := Lib.hid H_x; clear H_x
            have l_was := H_was.lt; have K_was := Lib.hid H_was; clear H_was
            have KB := Lib.hid HB; clear HB
            go_wp2_with fail
            refine (LL.out ⟨_, _⟩ ⟨_, _⟩ _).mono ?_
            rintro e3 u3 ⟨rfl, hb⟩
            have H_now : Whole u3 (u1.heap.size) 23 _ := Whole.below (((K_now.out.set 0 _).set 1 _).alloc _) hb (by first | omega | (simp; done) | (simp; omega) | (simp at *; omega))
            have H_worst : Whole u3 (u1.heap.size + 1) 23 _ := Whole.below (((K_worst.out.far (p := ⟨u1.heap.size, 0, none⟩) (by first | omega | (simp; done) | (simp; omega) | (simp at *; omega)) _).far (p := ⟨u1.heap.size, 1, none⟩) (by first | omega | (simp; done) | (simp; omega) | (simp at *; omega)) _).alloc _) hb (by first | omega | (simp; done) | (simp; omega) | (simp at *; omega))
            have H_x : Whole u3 (wr.heap.size) 39 _ := Whole.below (((K_x.out.far (p := ⟨u1.heap.size, 0, none⟩) (by first | omega | (simp; done) | (simp; omega) | (simp at *; omega)) _).far (p := ⟨u1.heap.size, 1, none⟩) (by first | omega | (simp; done) | (simp; omega) | (simp at *; omega)) _).alloc _) hb (by first | omega | (simp; done) | (simp; omega) | (simp at *; omega))
            have H_was : Whole u3 (wr.heap.size + 1) 23 _ := Whole.below (((K_was.out.far (p := ⟨u1.heap.size, 0, none⟩) (by first | omega | (simp; done) | (simp; omega) | (simp at *; omega)) _).far (p := ⟨u1.heap.size, 1, none⟩) (by first | omega | (simp; done) | (simp; omega) | (simp at *; omega)) _).alloc _) hb (by first | omega | (simp; done) | (simp; omega) | (simp at *; omega))
            have H_then : Whole u3 (u2.heap.size) 23 _ := Whole.below (wh_at0 u2 _ 23 _ (by simp [size_set])) hb (by first | omega | (simp; done) | (simp; omega) | (simp at *; omega))
            have HB := (((KB.out.setCell (p := ⟨u1.heap.size, 0, none⟩) (by first | omega | (simp; done) | (simp; omega) | (simp at *; omega)) _).setCell (p := ⟨u1.heap.size, 1, none⟩) (by first | omega | (simp; done) | (simp; omega) | (simp at *; omega)) _).alloc (by first | omega | (simp; done) | (simp; omega) | (simp at *; omega)) _).trans (hb.mono (by first | omega | (simp; done) | (simp; omega) | (simp at *; omega)))
            clear c_now_0 c_now_1 f_now_0 f_now_1 c_worst_0 c_worst_1 f_worst_0 f_worst_1 c_x_0 c_x_1 c_x_2 f_x_0 f_x_1 f_x_2 c_was_0 c_was_1 f_was_0 f_was_1
            clear hb KB K_now K_worst K_x K_was
            have z_u3 := HB.size
            have c_now_0 := H_now.cell 0; have f_now_0 := H_now.free 0; have c_now_1 := H_now.cell 1; have f_now_1 := H_now.free 1
            simp only [List.set_cons_zero, List.set_cons_succ, List.getElem?_cons_zero, List.getElem?_cons_succ] at c_now_0 c_now_1
            have c_worst_0 := H_worst.cell 0; have f_worst_0 := H_worst.free 0; have c_worst_1 := H_worst.cell 1; have f_worst_1 := H_worst.free 1
            simp only [List.set_cons_zero, List.set_cons_succ, List.getElem?_cons_zero, List.getElem?_cons_succ] at c_worst_0 c_worst_1
            have c_x_0 := H_x.cell 0; have f_x_0 := H_x.free 0; have c_x_1 := H_x.cell 1; have f_x_1 := H_x.free 1; have c_x_2 := H_x.cell 2; have f_x_2 := H_x.free 2
            simp only [List.set_cons_zero, List.set_cons_succ, List.getElem?_cons_zero, List.getElem?_cons_succ] at c_x_0 c_x_1 c_x_2
            have c_was_0 := H_was.cell 0; have f_was_0 := H_was.free 0; have c_was_1 := H_was.cell 1; have f_was_1 := H_was.free 1
            simp only [List.set_cons_zero, List.set_cons_succ, List.getElem?_cons_zero, List.getElem?_cons_succ] at c_was_0 c_was_1
            have c_then_0 := H_then.cell 0; have f_then_0 := H_then.free 0; have c_then_1 := H_then.cell 1; have f_then_1 := H_then.free 1
            simp only [List.set_cons_zero, List.set_cons_succ, List.getElem?_cons_zero, List.getElem?_cons_succ] at c_then_0 c_then_1
            have l_now := H_now.lt; have K_now := Lib.hid H_now; clear H_now
            have l_worst := H_worst.lt; have K_worst := Lib.hid H_worst; clear H_worst
            have l_x := H_x.lt; have K_x := Lib.hid H_x; clear H_x
            have l_was := H_was.lt; have K_was := Lib.hid H_was; clear H_was
            have l_then := H_then.lt; have K_then := Lib.hid H_then; clear H_then
            have KB := Lib.hid HB; clear HB
            go_wp2_with fail
            refine (LL.out ⟨_, _⟩ ⟨_, _⟩ _).mono ?_
            rintro e4 u4 ⟨rfl, hb⟩
            have H_now : Whole u4 (u1.heap.size) 23 _ := Whole.below K_now.out hb (by first | omega | (simp; done) | (simp; omega) | (simp at *; omega))
            have H_worst : Whole u4 (u1.heap.size + 1) 23 _ := Whole.below K_worst.out hb (by first | omega | (simp; done) | (simp; omega) | (simp at *; omega))
            have H_x : Whole u4 (wr.heap.size) 39 _ := Whole.below K_x.out hb (by first | omega | (simp; done) | (simp; omega) | (simp at *; omega))
            have H_was : Whole u4 (wr.heap.size + 1) 23 _ := Whole.below K_was.out hb (by first | omega | (simp; done) | (simp; omega) | (simp at *; omega))
            have H_then : Whole u4 (u2.heap.size) 23 _ := Whole.below K_then.out hb (by first | omega | (simp; done) | (simp; omega) | (simp at *; omega))
            have HB := KB.out.trans (hb.mono (by first | omega | (simp; done) | (simp; omega) | (simp at *; omega)))
            clear c_now_0 c_now_1 f_now_0 f_now_1 c_worst_0 c_worst_1 f_worst_0 f_worst_1 c_x_0 c_x_1 c_x_2 f_x_0 f_x_1 f_x_2 c_was_0 c_was_1 f_was_0 f_was_1 c_then_0 c_then_1 f_then_0 f_then_1 l_now l_worst l_x l_was l_then
            clear hb KB K_now K_worst K_x K_was K_then
            have z_u4 := HB.size
            have c_now_0 := H_now.cell 0; have f_now_0 := H_now.free 0; have c_now_1 := H_now.cell 1; have f_now_1 := H_now.free 1
            simp only [List.set_cons_zero, List.set_cons_succ, List.getElem?_cons_zero, List.getElem?_cons_succ] at c_now_0 c_now_1
            have c_worst_0 := H_worst.cell 0; have f_worst_0 := H_worst.free 0; have c_worst_1 := H_worst.cell 1; have f_worst_1 := H_worst.free 1
            simp only [List.set_cons_zero, List.set_cons_succ, List.getElem?_cons_zero, List.getElem?_cons_succ] at c_worst_0 c_worst_1
            have c_x_0 := H_x.cell 0; have f_x_0 := H_x.free 0; have c_x_1 := H_x.cell 1; have f_x_1 := H_x.free 1; have c_x_2 := H_x.cell 2; have f_x_2 := H_x.free 2
            simp only [List.set_cons_zero, List.set_cons_succ, List.getElem?_cons_zero, List.getElem?_cons_succ] at c_x_0 c_x_1 c_x_2
            have c_was_0 := H_was.cell 0; have f_was_0 := H_was.free 0; have c_was_1 := H_was.cell 1; have f_was_1 := H_was.free 1
            simp only [List.set_cons_zero, List.set_cons_succ, List.getElem?_cons_zero, List.getElem?_cons_succ] at c_was_0 c_was_1
            have c_then_0 := H_then.cell 0; have f_then_0 := H_then.free 0; have c_then_1 := H_then.cell 1; have f_then_1 := H_then.free 1
            simp only [List.set_cons_zero, List.set_cons_succ, List.getElem?_cons_zero, List.getElem?_cons_succ] at c_then_0 c_then_1
            have l_now := H_now.lt; have K_now := Lib.hid H_now; clear H_now
            have l_worst := H_worst.lt; have K_worst := Lib.hid H_worst; clear H_worst
            have l_x := H_x.lt; have K_x := Lib.hid H_x; clear H_x
            have l_was := H_was.lt; have K_was := Lib.hid H_was; clear H_was
            have l_then := H_then.lt; have K_then := Lib.hid H_then; clear H_then
            have KB := Lib.hid HB; clear HB
            go_wp2_with fail
            go_roundw
            case rel => exact ⟨k + 1, ⟨nr, np⟩, ⟨wor, wop⟩, by omega, by go_num, K_now.out, K_worst.out, HI2.out, KB.out⟩
            case measure => simp [intOf]; omega
        · have HI2 := Lib.hid (inv_b HI.out hwb hl)
          have CP := promise_any ⟨nr, np⟩ ⟨br, bp⟩
          rw [hp] at CP
          simp only [Ba.cells] at CP
          have CP := Lib.hid CP
          by_cases i1 : i < 1
          ·
            clear hp
            have z_wr := HB.size
            have c_now_0 := H_now.cell 0; have f_now_0 := H_now.free 0; have c_now_1 := H_now.cell 1; have f_now_1 := H_now.free 1
            simp only [List.set_cons_zero, List.set_cons_succ, List.getElem?_cons_zero, List.getElem?_cons_succ] at c_now_0 c_now_1
            have c_worst_0 := H_worst.cell 0; have f_worst_0 := H_worst.free 0; have c_worst_1 := H_worst.cell 1; have f_worst_1 := H_worst.free 1
            simp only [List.set_cons_zero, List.set_cons_succ, List.getElem?_cons_zero, List.getElem?_cons_succ] at c_worst_0 c_worst_1
            have l_now := H_now.lt; have K_now := Lib.hid H_now; clear H_now
            have l_worst := H_worst.lt; have K_worst := Lib.hid H_worst; clear H_worst
            have KB := Lib.hid HB; clear HB
            go_wp2_with fail
            refine (CP.out _).mono ?_
            rintro e2 u2 ⟨rfl, hb⟩
            have H_now : Whole u2 (u1.heap.size) 23 _ := Whole.below ((K_now.out.alloc _).alloc _) hb (by first | omega | (simp; done) | (simp; omega) | (simp at *; omega))
            have H_worst : Whole u2 (u1.heap.size + 1) 23 _ := Whole.below ((K_worst.out.alloc _).alloc _) hb (by first | omega | (simp; done) | (simp; omega) | (simp at *; omega))
            have H_x : Whole u2 (wr.heap.size) 39 _ := Whole.below ((Whole.new _ 39 _).alloc _) hb (by first | omega | (simp; done) | (simp; omega) | (simp at *; omega))
            have H_was : Whole u2 (wr.heap.size + 1) 23 _ := Whole.below (wh_at wr 1 _ 23 _ (by simp)) hb (by first | omega | (simp; done) | (simp; omega) | (simp at *; omega))
            have HB := ((KB.out.alloc (by first | omega | (simp; done) | (simp; omega) | (simp at *; omega)) _).alloc (by first | omega | (simp; done) | (simp; omega) | (simp at *; omega)) _).trans (hb.mono (by first | omega | (simp; done) | (simp; omega) | (simp at *; omega)))
            clear c_now_0 c_now_1 f_now_0 f_now_1 c_worst_0 c_worst_1 f_worst_0 f_worst_1
            clear hb KB K_now K_worst
            have z_u2 := HB.size
            have c_now_0 := H_now.cell 0; have f_now_0 := H_now.free 0; have c_now_1 := H_now.cell 1; have f_now_1 := H_now.free 1
            simp only [List.set_cons_zero, List.set_cons_succ, List.getElem?_cons_zero, List.getElem?_cons_succ] at c_now_0 c_now_1
            have c_worst_0 := H_worst.cell 0; have f_worst_0 := H_worst.free 0; have c_worst_1 := H_worst.cell 1; have f_worst_1 := H_worst.free 1
            simp only [List.set_cons_zero, List.set_cons_succ, List.getElem?_cons_zero, List.getElem?_cons_succ] at c_worst_0 c_worst_1
            have c_x_0 := H_x.cell 0; have f_x_0 := H_x.free 0; have c_x_1 := H_x.cell 1; have f_x_1 := H_x.free 1; have c_x_2 := H_x.cell 2; have f_x_2 := H_x.free 2
            simp only [List.set_cons_zero, List.set_cons_succ, List.getElem?_cons_zero, List.getElem?_cons_succ] at c_x_0 c_x_1 c_x_2
            have c_was_0 := H_was.cell 0; have f_was_0 := H_was.free 0; have c_was_1 := H_was.cell 1; have f_was_1 := H_was.free 1
            simp only [List.set_cons_zero, List.set_cons_succ, List.getElem?_cons_zero, List.getElem?_cons_succ] at c_was_0 c_was_1
            have l_now := H_now.lt; have K_now := Lib.hid H_now; clear H_now
            have l_worst := H_worst.lt; have K_worst := Lib.hid H_worst; clear H_worst
            have l_x := H_x.lt; have K_x := Lib.hid H_x; clear H_x
            have l_was := H_was.lt; have K_was := Lib.hid H_was; clear H_was
            have KB := Lib.hid HB; clear HB
            go_wp2_with fail
            refine (LL.out ⟨_, _⟩ ⟨_, _⟩ _).mono ?_
            rintro e3 u3 ⟨rfl, hb⟩
            have H_now : Whole u3 (u1.heap.size) 23 _ := Whole.below ((K_now.out.set 0 _).set 1 _) hb (by first | omega | (simp; done) | (simp; omega) | (simp at *; omega))
            have H_worst : Whole u3 (u1.heap.size + 1) 23 _ := Whole.below ((K_worst.out.far (p := ⟨u1.heap.size, 0, none⟩) (by first | omega | (simp; done) | (simp; omega) | (simp at *; omega)) _).far (p := ⟨u1.heap.size, 1, none⟩) (by first | omega | (simp; done) | (simp; omega) | (simp at *; omega)) _) hb (by first | omega | (simp; done) | (simp; omega) | (simp at *; omega))
            have H_x : Whole u3 (wr.heap.size) 39 _ := Whole.below ((K_x.out.far (p := ⟨u1.heap.size, 0, none⟩) (by first | omega | (simp; done) | (simp; omega) | (simp at *; omega)) _).far (p := ⟨u1.heap.size, 1, none⟩) (by first | omega | (simp; done) | (simp; omega) | (simp at *; omega)) _) hb (by first | omega | (simp; done) | (simp; omega) | (simp at *; omega))
            have H_was : Whole u3 (wr.heap.size + 1) 23 _ := Whole.below ((K_was.out.far (p := ⟨u1.heap.size, 0, none⟩) (by first | omega | (simp; done) | (simp; omega) | (simp at *; omega)) _).far (p := ⟨u1.heap.size, 1, none⟩) (by first | omega | (simp; done) | (simp; omega) | (simp at *; omega)) _) hb (by first | omega | (simp; done) | (simp; omega) | (simp at *; omega))
            have HB := ((KB.out.setCell (p := ⟨u1.heap.size, 0, none⟩) (by first | omega | (simp; done) | (simp; omega) | (simp at *; omega)) _).setCell (p := ⟨u1.heap.size, 1, none⟩) (by first | omega | (simp; done) | (simp; omega) | (simp at *; omega)) _).trans (hb.mono (by first | omega | (simp; done) | (simp; omega) | (simp at *; omega)))
            clear c_now_0 c_now_1 f_now_0 f_now_1 c_worst_0 c_worst_1 f_worst_0 f_worst_1 c_x_0 c_x_1 c_x_2 f_x_0 f_x_1 f_x_2 c_was_0 c_was_1 f_was_0 f_was_1 l_now l_worst l_x l_was
            clear hb KB K_now K_worst K_x K_was
            have z_u3 := HB.size
            have c_now_0 := H_now.cell 0; have f_now_0 := H_now.free 0; have c_now_1 := H_now.cell 1; have f_now_1 := H_now.free 1
            simp only [List.set_cons_zero, List.set_cons_succ, List.getElem?_cons_zero, List.getElem?_cons_succ] at c_now_0 c_now_1
            have c_worst_0 := H_worst.cell 0; have f_worst_0 := H_worst.free 0; have c_worst_1 := H_worst.cell 1; have f_worst_1 := H_worst.free 1
            simp only [List.set_cons_zero, List.set_cons_succ, List.getElem?_cons_zero, List.getElem?_cons_succ] at c_worst_0 c_worst_1
            have c_x_0 := H_x.cell 0; have f_x_0 := H_x.free 0; have c_x_1 := H_x.cell 1; have f_x_1 := H_x.free 1; have c_x_2 := H_x.cell 2; have f_x_2 := H_x.free 2
            simp only [List.set_cons_zero, List.set_cons_succ, List.getElem?_cons_zero, List.getElem?_cons_succ] at c_x_0 c_x_1 c_x_2
            have c_was_0 := H_was.cell 0; have f_was_0 := H_was.free 0; have c_was_1 := H_was.cell 1; have f_was_1 := H_was.free 1
            simp only [List.set_cons_zero, List.set_cons_succ, List.getElem?_cons_zero, List.getElem?_cons_succ] at c_was_0 c_was_1
            have l_now := H_now.lt; have K_now := Lib.hid H_now; clear H_now
            have l_worst := H_worst.lt; have K_worst := Lib.hid H_worst; clear H_worst
            have l_x := H_x.lt; have K_x := Lib.hid H_x; clear H_x
            have l_was := H_was.lt; have K_was := Lib.hid H_was; clear H_was
            have KB := Lib.hid HB; clear HB
            go_wp2_with fail
            refine (LL.out ⟨_, _⟩ ⟨_, _⟩ _).mono ?_
            rintro e4 u4 ⟨rfl, hb⟩
            have H_now : Whole u4 (u1.heap.size) 23 _ := Whole.below K_now.out hb (by first | omega | (simp; done) | (simp; omega) | (simp at *; omega))
            have H_worst : Whole u4 (u1.heap.size + 1) 23 _ := Whole.below K_worst.out hb (by first | omega | (simp; done) | (simp; omega) | (simp at *; omega))
            have H_x : Whole u4 (wr.heap.size) 39 _ := Whole.below K_x.out hb (by first | omega | (simp; done) | (simp; omega) | (simp at *; omega))
            have H_was : Whole u4 (wr.heap.size + 1) 23 _ := Whole.below K_was.out hb (by first | omega | (simp; done) | (simp; omega) | (simp at *; omega))
            have HB := KB.out.trans (hb.mono (by first | omega | (simp; done) | (simp; omega) | (simp at *; omega)))
            clear c_now_0 c_now_1 f_now_0 f_now_1 c_worst_0 c_worst_1 f_worst_0 f_worst_1 c_x_0 c_x_1 c_x_2 f_x_0 f_x_1 f_x_2 c_was_0 c_was_1 f_was_0 f_was_1 l_now l_worst l_x l_was
            clear hb KB K_now K_worst K_x K_was
            have z_u4 := HB.size
            have c_now_0 := H_now.cell 0; have f_now_0 := H_now.free 0; have c_now_1 := H_now.cell 1; have f_now_1 := H_now.free 1
            simp only [List.set_cons_zero, List.set_cons_succ, List.getElem?_cons_zero, List.getElem?_cons_succ] at c_now_0 c_now_1
            have c_worst_0 := H_worst.cell 0; have f_worst_0 := H_worst.free 0; have c_worst_1 := H_worst.cell 1; have f_worst_1 := H_worst.free 1
            simp only [List.set_cons_zero, List.set_cons_succ, List.getElem?_cons_zero, List.getElem?_cons_succ] at c_worst_0 c_worst_1
            have c_x_0 := H_x.cell 0; have f_x_0 := H_x.free 0; have c_x_1 := H_x.cell 1; have f_x_1 := H_x.free 1; have c_x_2 := H_x.cell 2; have f_x_2 := H_x.free 2
            simp only [List.set_cons_zero, List.set_cons_succ, List.getElem?_cons_zero, List.getElem?_cons_succ] at c_x_0 c_x_1 c_x_2
            have c_was_0 := H_was.cell 0; have f_was_0 := H_was.free 0; have c_was_1 := H_was.cell 1; have f_was_1 := H_was.free 1
            simp only [List.set_cons_zero, List.set_cons_succ, List.getElem?_cons_zero, List.getElem?_cons_succ] at c_was_0 c_was_1
            have l_now := H_now.lt; have K_now := Lib.hid H_now; clear H_now
            have l_worst := H_worst.lt; have K_worst := Lib.hid H_worst; clear H_worst
            have l_x := H_x.lt; have K_x := Lib.hid H_x; clear H_x
            have l_was := H_was.lt; have K_was := Lib.hid H_was; clear H_was
            have KB := Lib.hid HB; clear HB
            go_wp2_with fail
            go_roundw
            case rel => exact ⟨k + 1, ⟨nr, np⟩, ⟨br, bp⟩, by omega, by go_num, ((K_now.out.far (p := ⟨u1.heap.size + 1, 0, none⟩) (by first | omega | (simp; done) | (simp; omega) | (simp at *; omega)) _).far (p := ⟨u1.heap.size + 1, 1, none⟩) (by first | omega | (simp; done) | (simp; omega) | (simp at *; omega)) _), ((K_worst.out.set 0 _).set 1 _), HI2.out, ((KB.out.setCell (p := ⟨u1.heap.size + 1, 0, none⟩) (by first | omega | (simp; done) | (simp; omega) | (simp at *; omega)) _).setCell (p := ⟨u1.heap.size + 1, 1, none⟩) (by first | omega | (simp; done) | (simp; omega) | (simp at *; omega)) _)⟩
            case measure => simp [intOf]; omega
          by_cases i2 : 1099511627776 < i
          ·
            clear hp
            have z_wr := HB.size
            have c_now_0 := H_now.cell 0; have f_now_0 := H_now.free 0; have c_now_1 := H_now.cell 1; have f_now_1 := H_now.free 1
            simp only [List.set_cons_zero, List.set_cons_succ, List.getElem?_cons_zero, List.getElem?_cons_succ] at c_now_0 c_now_1
            have c_worst_0 := H_worst.cell 0; have f_worst_0 := H_worst.free 0; have c_worst_1 := H_worst.cell 1; have f_worst_1 := H_worst.free 1
            simp only [List.set_cons_zero, List.set_cons_succ, List.getElem?_cons_zero, List.getElem?_cons_succ] at c_worst_0 c_worst_1
            have l_now := H_now.lt; have K_now := Lib.hid H_now; clear H_now
            have l_worst := H_worst.lt; have K_worst := Lib.hid H_worst; clear H_worst
            have KB := Lib.hid HB; clear HB
            go_wp2_with fail
            refine (CP.out _).mono ?_
            rintro e2 u2 ⟨rfl, hb⟩
            have H_now : Whole u2 (u1.heap.size) 23 _ := Whole.below ((K_now.out.alloc _).alloc _) hb (by first | omega | (simp; done) | (simp; omega) | (simp at *; omega))
            have H_worst : Whole u2 (u1.heap.size + 1) 23 _ := Whole.below ((K_worst.out.alloc _).alloc _) hb (by first | omega | (simp; done) | (simp; omega) | (simp at *; omega))
            have H_x : Whole u2 (wr.heap.size) 39 _ := Whole.below ((Whole.new _ 39 _).alloc _) hb (by first | omega | (simp; done) | (simp; omega) | (simp at *; omega))
            have H_was : Whole u2 (wr.heap.size + 1) 23 _ := Whole.below (wh_at wr 1 _ 23 _ (by simp)) hb (by first | omega | (simp; done) | (simp; omega) | (simp at *; omega))
            have HB := ((KB.out.alloc (by first | omega | (simp; done) | (simp; omega) | (simp at *; omega)) _).alloc (by first | omega | (simp; done) | (simp; omega) | (simp at *; omega)) _).trans (hb.mono (by first | omega | (simp; done) | (simp; omega) | (simp at *; omega)))
            clear c_now_0 c_now_1 f_now_0 f_now_1 c_worst_0 c_worst_1 f_worst_0 f_worst_1
            clear hb KB K_now K_worst
            have z_u2 := HB.size
            have c_now_0 := H_now.cell 0; have f_now_0 := H_now.free 0; have c_now_1 := H_now.cell 1; have f_now_1 := H_now.free 1
            simp only [List.set_cons_zero, List.set_cons_succ, List.getElem?_cons_zero, List.getElem?_cons_succ] at c_now_0 c_now_1
            have c_worst_0 := H_worst.cell 0; have f_worst_0 := H_worst.free 0; have c_worst_1 := H_worst.cell 1; have f_worst_1 := H_worst.free 1
            simp only [List.set_cons_zero, List.set_cons_succ, List.getElem?_cons_zero, List.getElem?_cons_succ] at c_worst_0 c_worst_1
            have c_x_0 := H_x.cell 0; have f_x_0 := H_x.free 0; have c_x_1 := H_x.cell 1; have f_x_1 := H_x.free 1; have c_x_2 := H_x.cell 2; have f_x_2 := H_x.free 2
            simp only [List.set_cons_zero, List.set_cons_succ, List.getElem?_cons_zero, List.getElem?_cons_succ] at c_x_0 c_x_1 c_x_2
            have c_was_0 := H_was.cell 0; have f_was_0 := H_was.free 0; have c_was_1 := H_was.cell 1; have f_was_1 := H_was.free 1
            simp only [List.set_cons_zero, List.set_cons_succ, List.getElem?_cons_zero, List.getElem?_cons_succ] at c_was_0 c_was_1
            have l_now := H_now.lt; have K_now := Lib.hid H_now; clear H_now
            have l_worst := H_worst.lt; have K_worst := Lib.hid H_worst; clear H_worst
            have l_x := H_x.lt; have K_x := Lib.hid H_x; clear H_x
            have l_was := H_was.lt; have K_was := Lib.hid H_was; clear H_was
            have KB := Lib.hid HB; clear HB
            go_wp2_with fail
            refine (LL.out ⟨_, _⟩ ⟨_, _⟩ _).mono ?_
            rintro e3 u3 ⟨rfl, hb⟩
            have H_now : Whole u3 (u1.heap.size) 23 _ := Whole.below ((K_now.out.set 0 _).set 1 _) hb (by first | omega | (simp; done) | (simp; omega) | (simp at *; omega))
            have H_worst : Whole u3 (u1.heap.size + 1) 23 _ := Whole.below ((K_worst.out.far (p := ⟨u1.heap.size, 0, none⟩) (by first | omega | (simp; done) | (simp; omega) | (simp at *; omega)) _).far (p := ⟨u1.heap.size, 1, none⟩) (by first | omega | (simp; done) | (simp; omega) | (simp at *; omega)) _) hb (by first | omega | (simp; done) | (simp; omega) | (simp at *; omega))
            have H_x : Whole u3 (wr.heap.size) 39 _ := Whole.below ((K_x.out.far (p := ⟨u1.heap.size, 0, none⟩) (by first | omega | (simp; done) | (simp; omega) | (simp at *; omega)) _).far (p := ⟨u1.heap.size, 1, none⟩) (by first | omega | (simp; done) | (simp; omega) | (simp at *; omega)) _) hb (by first | omega | (simp; done) | (simp; omega) | (simp at *; omega))
            have H_was : Whole u3 (wr.heap.size + 1) 23 _ := Whole.below ((K_was.out.far (p := ⟨u1.heap.size, 0, none⟩) (by first | omega | (simp; done) | (simp; omega) | (simp at *; omega)) _).far (p := ⟨u1.heap.size, 1, none⟩) (by first | omega | (simp; done) | (simp; omega) | (simp at *; omega)) _) hb (by first | omega | (simp; done) | (simp; omega) | (simp at *; omega))
            have HB := ((KB.out.setCell (p := ⟨u1.heap.size, 0, none⟩) (by first | omega | (simp; done) | (simp; omega) | (simp at *; omega)) _).setCell (p := ⟨u1.heap.size, 1, none⟩) (by first | omega | (simp; done) | (simp; omega) | (simp at *; omega)) _).trans (hb.mono (by first | omega | (simp; done) | (simp; omega) | (simp at *; omega)))
            clear c_now_0 c_now_1 f_now_0 f_now_1 c_worst_0 c_worst_1 f_worst_0 f_worst_1 c_x_0 c_x_1 c_x_2 f_x_0 f_x_1 f_x_2 c_was_0 c_was_1 f_was_0 f_was_1 l_now l_worst l_x l_was
            clear hb KB K_now K_worst K_x K_was
            have z_u3 := HB.size
            have c_now_0 := H_now.cell 0; have f_now_0 := H_now.free 0; have c_now_1 := H_now.cell 1; have f_now_1 := H_now.free 1
            simp only [List.set_cons_zero, List.set_cons_succ, List.getElem?_cons_zero, List.getElem?_cons_succ] at c_now_0 c_now_1
            have c_worst_0 := H_worst.cell 0; have f_worst_0 := H_worst.free 0; have c_worst_1 := H_worst.cell 1; have f_worst_1 := H_worst.free 1
            simp only [List.set_cons_zero, List.set_cons_succ, List.getElem?_cons_zero, List.getElem?_cons_succ] at c_worst_0 c_worst_1
            have c_x_0 := H_x.cell 0; have f_x_0 := H_x.free 0; have c_x_1 := H_x.cell 1; have f_x_1 := H_x.free 1; have c_x_2 := H_x.cell 2; have f_x_2 := H_x.free 2
            simp only [List.set_cons_zero, List.set_cons_succ, List.getElem?_cons_zero, List.getElem?_cons_succ] at c_x_0 c_x_1 c_x_2
            have c_was_0 := H_was.cell 0; have f_was_0 := H_was.free 0; have c_was_1 := H_was.cell 1; have f_was_1 := H_was.free 1
            simp only [List.set_cons_zero, List.set_cons_succ, List.getElem?_cons_zero, List.getElem?_cons_succ] at c_was_0 c_was_1
            have l_now := H_now.lt; have K_now := Lib.hid H_now; clear H_now
            have l_worst := H_worst.lt; have K_worst := Lib.hid H_worst; clear H_worst
            have l_x := H_x.lt; have K_x := Lib.hid H_x; clear H_x
            have l_was := H_was.lt; have K_was := Lib.hid H_was; clear H_was
            have KB := Lib.hid HB; clear HB
            go_wp2_with fail
            refine (LL.out ⟨_, _⟩ ⟨_, _⟩ _).mono ?_
            rintro e4 u4 ⟨rfl, hb⟩
            have H_now : Whole u4 (u1.heap.size) 23 _ := Whole.below K_now.out hb (by first | omega | (simp; done) | (simp; omega) | (simp at *; omega))
            have H_worst : Whole u4 (u1.heap.size + 1) 23 _ := Whole.below K_worst.out hb (by first | omega | (simp; done) | (simp; omega) | (simp at *; omega))
            have H_x : Whole u4 (wr.heap.size) 39 _ := Whole.below K_x.out hb (by first | omega | (simp; done) | (simp; omega) | (simp at *; omega))
            have H_was : Whole u4 (wr.heap.size + 1) 23 _ := Whole.below K_was.out hb (by first | omega | (simp; done) | (simp; omega) | (simp at *; omega))
            have HB := KB.out.trans (hb.mono (by first | omega | (simp; done) | (simp; omega) | (simp at *; omega)))
            clear c_now_0 c_now_1 f_now_0 f_now_1 c_worst_0 c_worst_1 f_worst_0 f_worst_1 c_x_0 c_x_1 c_x_2 f_x_0 f_x_1 f_x_2 c_was_0 c_was_1 f_was_0 f_was_1 l_now l_worst l_x l_was
            clear hb KB K_now K_worst K_x K_was
            have z_u4 := HB.size
            have c_now_0 := H_now.cell 0; have f_now_0 := H_now.free 0; have c_now_1 := H_now.cell 1; have f_now_1 := H_now.free 1
            simp only [List.set_cons_zero, List.set_cons_succ, List.getElem?_cons_zero, List.getElem?_cons_succ] at c_now_0 c_now_1
            have c_worst_0 := H_worst.cell 0; have f_worst_0 := H_worst.free 0; have c_worst_1 := H_worst.cell 1; have f_worst_1 := H_worst.free 1
            simp only [List.set_cons_zero, List.set_cons_succ, List.getElem?_cons_zero, List.getElem?_cons_succ] at c_worst_0 c_worst_1
            have c_x_0 := H_x.cell 0; have f_x_0 := H_x.free 0; have c_x_1 := H_x.cell 1; have f_x_1 := H_x.free 1; have c_x_2 := H_x.cell 2; have f_x_2 := H_x.free 2
            simp only [List.set_cons_zero, List.set_cons_succ, List.getElem?_cons_zero, List.getElem?_cons_succ] at c_x_0 c_x_1 c_x_2
            have c_was_0 := H_was.cell 0; have f_was_0 := H_was.free 0; have c_was_1 := H_was.cell 1; have f_was_1 := H_was.free 1
            simp only [List.set_cons_zero, List.set_cons_succ, List.getElem?_cons_zero, List.getElem?_cons_succ] at c_was_0 c_was_1
            have l_now := H_now.lt; have K_now := Lib.hid H_now; clear H_now
            have l_worst := H_worst.lt; have K_worst := Lib.hid H_worst; clear H_worst
            have l_x := H_x.lt; have K_x := Lib.hid H_x; clear H_x
            have l_was := H_was.lt; have K_was := Lib.hid H_was; clear H_was
            have KB := Lib.hid HB; clear HB
            go_wp2_with fail
            go_roundw
            case rel => exact ⟨k + 1, ⟨nr, np⟩, ⟨br, bp⟩, by omega, by go_num, ((K_now.out.far (p := ⟨u1.heap.size + 1, 0, none⟩) (by first | omega | (simp; done) | (simp; omega) | (simp at *; omega)) _).far (p := ⟨u1.heap.size + 1, 1, none⟩) (by first | omega | (simp; done) | (simp; omega) | (simp at *; omega)) _), ((K_worst.out.set 0 _).set 1 _), HI2.out, ((KB.out.setCell (p := ⟨u1.heap.size + 1, 0, none⟩) (by first | omega | (simp; done) | (simp; omega) | (simp at *; omega)) _).setCell (p := ⟨u1.heap.size + 1, 1, none⟩) (by first | omega | (simp; done) | (simp; omega) | (simp at *; omega)) _)⟩
            case measure => simp [intOf]; omega
          · have CA := accept_any ⟨nr, np⟩ ⟨br, bp⟩ s i
            have hww : (whereZ s i).2 ≠ 2 := by
              rcases where_cases s i with ⟨hb, _⟩ | ⟨_, _, h⟩ | ⟨_, _, _, h⟩ | ⟨_, _, _, h⟩
              · have : badW s i = false := badW_false.2 ⟨by omega, by omega, by omega, by omega⟩
                rw [this] at hb; cases hb
              all_goals rw [h]; decide
            rw [accept_ok_is hww hp] at CA
            have hd := done_ne (whereZ s i).1
            clear hww
            generalize doneZ (whereZ s i).1 = x at *
            obtain ⟨hd1, hd0⟩ := hd
            simp only [Ba.cells, if_true, if_false, Bool.false_eq_true] at CA
            have CA := Lib.hid CA
            clear hp
            have z_wr := HB.size
            have c_now_0 := H_now.cell 0; have f_now_0 := H_now.free 0; have c_now_1 := H_now.cell 1; have f_now_1 := H_now.free 1
            simp only [List.set_cons_zero, List.set_cons_succ, List.getElem?_cons_zero, List.getElem?_cons_succ] at c_now_0 c_now_1
            have c_worst_0 := H_worst.cell 0; have f_worst_0 := H_worst.free 0; have c_worst_1 := H_worst.cell 1; have f_worst_1 := H_worst.free 1
            simp only [List.set_cons_zero, List.set_cons_succ, List.getElem?_cons_zero, List.getElem?_cons_succ] at c_worst_0 c_worst_1
            have l_now := H_now.lt; have K_now := Lib.hid H_now; clear H_now
            have l_worst := H_worst.lt; have K_worst := Lib.hid H_worst; clear H_worst
            have KB := Lib.hid HB; clear HB
            go_wp2_with fail
            refine (CA.out _ (HT.out.below ((KB.out.alloc (by first | omega | (simp; done) | (simp; omega) | (simp at *; omega)) _).alloc (by first | omega | (simp; done) | (simp; omega) | (simp at *; omega)) _))).mono ?_
            rintro e2 u2 ⟨rfl, hb⟩
            have H_now : Whole u2 (u1.heap.size) 23 _ := Whole.below ((K_now.out.alloc _).alloc _) hb (by first | omega | (simp; done) | (simp; omega) | (simp at *; omega))
            have H_worst : Whole u2 (u1.heap.size + 1) 23 _ := Whole.below ((K_worst.out.alloc _).alloc _) hb (by first | omega | (simp; done) | (simp; omega) | (simp at *; omega))
            have H_x : Whole u2 (wr.heap.size) 39 _ := Whole.below ((Whole.new _ 39 _).alloc _) hb (by first | omega | (simp; done) | (simp; omega) | (simp at *; omega))
            have H_was : Whole u2 (wr.heap.size + 1) 23 _ := Whole.below (wh_at wr 1 _ 23 _ (by simp)) hb (by first | omega | (simp; done) | (simp; omega) | (simp at *; omega))
            have HB := ((KB.out.alloc (by first | omega | (simp; done) | (simp; omega) | (simp at *; omega)) _).alloc (by first | omega | (simp; done) | (simp; omega) | (simp at *; omega)) _).trans (hb.mono (by first | omega | (simp; done) | (simp; omega) | (simp at *; omega)))
            clear c_now_0 c_now_1 f_now_0 f_now_1 c_worst_0 c_worst_1 f_worst_0 f_worst_1
            clear hb KB K_now K_worst
            have z_u2 := HB.size
            have c_now_0 := H_now.cell 0; have f_now_0 := H_now.free 0; have c_now_1 := H_now.cell 1; have f_now_1 := H_now.free 1
            simp only [List.set_cons_zero, List.set_cons_succ, List.getElem?_cons_zero, List.getElem?_cons_succ] at c_now_0 c_now_1
            have c_worst_0 := H_worst.cell 0; have f_worst_0 := H_worst.free 0; have c_worst_1 := H_worst.cell 1; have f_worst_1 := H_worst.free 1
            simp only [List.set_cons_zero, List.set_cons_succ, List.getElem?_cons_zero, List.getElem?_cons_succ] at c_worst_0 c_worst_1
            have c_x_0 := H_x.cell 0; have f_x_0 := H_x.free 0; have c_x_1 := H_x.cell 1; have f_x_1 := H_x.free 1; have c_x_2 := H_x.cell 2; have f_x_2 := H_x.free 2
            simp only [List.set_cons_zero, List.set_cons_succ, List.getElem?_cons_zero, List.getElem?_cons_succ] at c_x_0 c_x_1 c_x_2
            have c_was_0 := H_was.cell 0; have f_was_0 := H_was.free 0; have c_was_1 := H_was.cell 1; have f_was_1 := H_was.free 1
            simp only [List.set_cons_zero, List.set_cons_succ, List.getElem?_cons_zero, List.getElem?_cons_succ] at c_was_0 c_was_1
            have l_now := H_now.lt; have K_now := Lib.hid H_now; clear H_now
            have l_worst := H_worst.lt; have K_worst := Lib.hid H_worst; clear H_worst
            have l_x := H_x.lt; have K_x := Lib.hid H_x; clear H_x
            have l_was := H_was.lt; have K_was := Lib.hid H_was; clear H_was
            have KB := Lib.hid HB; clear HB
            go_wp2_with fail
            refine (LL.out ⟨_, _⟩ ⟨_, _⟩ _).mono ?_
            rintro e3 u3 ⟨rfl, hb⟩
            have H_now : Whole u3 (u1.heap.size) 23 _ := Whole.below (((K_now.out.set 0 _).set 1 _).alloc _) hb (by first | omega | (simp; done) | (simp; omega) | (simp at *; omega))
            have H_worst : Whole u3 (u1.heap.size + 1) 23 _ := Whole.below (((K_worst.out.far (p := ⟨u1.heap.size, 0, none⟩) (by first | omega | (simp; done) | (simp; omega) | (simp at *; omega)) _).far (p := ⟨u1.heap.size, 1, none⟩) (by first | omega | (simp; done) | (simp; omega) | (simp at *; omega)) _).alloc _) hb (by first | omega | (simp; done) | (simp; omega) | (simp at *; omega))
            have H_x : Whole u3 (wr.heap.size) 39 _ := Whole.below (((K_x.out.far (p := ⟨u1.heap.size, 0, none⟩) (by first | omega | (simp; done) | (simp; omega) | (simp at *; omega)) _).far (p := ⟨u1.heap.size, 1, none⟩) (by first | omega | (simp; done) | (simp; omega) | (simp at *; omega)) _).alloc _) hb (by first | omega | (simp; done) | (simp; omega) | (simp at *; omega))
            have H_was : Whole u3 (wr.heap.size + 1) 23 _ := Whole.below (((K_was.out.far (p := ⟨u1.heap.size, 0, none⟩) (by first | omega | (simp; done) | (simp; omega) | (simp at *; omega)) _).far (p := ⟨u1.heap.size, 1, none⟩) (by first | omega | (simp; done) | (simp; omega) | (simp at *; omega)) _).alloc _) hb (by first | omega | (simp; done) | (simp; omega) | (simp at *; omega))
            have H_then : Whole u3 (u2.heap.size) 23 _ := Whole.below (wh_at0 u2 _ 23 _ (by simp [size_set])) hb (by first | omega | (simp; done) | (simp; omega) | (simp at *; omega))
            have HB := (((KB.out.setCell (p := ⟨u1.heap.size, 0, none⟩) (by first | omega | (simp; done) | (simp; omega) | (simp at *; omega)) _).setCell (p := ⟨u1.heap.size, 1, none⟩) (by first | omega | (simp; done) | (simp; omega) | (simp at *; omega)) _).alloc (by first | omega | (simp; done) | (simp; omega) | (simp at *; omega)) _).trans (hb.mono (by first | omega | (simp; done) | (simp; omega) | (simp at *; omega)))
            clear c_now_0 c_now_1 f_now_0 f_now_1 c_worst_0 c_worst_1 f_worst_0 f_worst_1 c_x_0 c_x_1 c_x_2 f_x_0 f_x_1 f_x_2 c_was_0 c_was_1 f_was_0 f_was_1
            clear hb KB K_now K_worst K_x K_was
            have z_u3 := HB.size
            have c_now_0 := H_now.cell 0; have f_now_0 := H_now.free 0; have c_now_1 := H_now.cell 1; have f_now_1 := H_now.free 1
            simp only [List.set_cons_zero, List.set_cons_succ, List.getElem?_cons_zero, List.getElem?_cons_succ] at c_now_0 c_now_1
            have c_worst_0 := H_worst.cell 0; have f_worst_0 := H_worst.free 0; have c_worst_1 := H_worst.cell 1; have f_worst_1 := H_worst.free 1
            simp only [List.set_cons_zero, List.set_cons_succ, List.getElem?_cons_zero, List.getElem?_cons_succ] at c_worst_0 c_worst_1
            have c_x_0 := H_x.cell 0; have f_x_0 := H_x.free 0; have c_x_1 := H_x.cell 1; have f_x_1 := H_x.free 1; have c_x_2 := H_x.cell 2; have f_x_2 := H_x.free 2
            simp only [List.set_cons_zero, List.set_cons_succ, List.getElem?_cons_zero, List.getElem?_cons_succ] at c_x_0 c_x_1 c_x_2
            have c_was_0 := H_was.cell 0; have f_was_0 := H_was.free 0; have c_was_1 := H_was.cell 1; have f_was_1 := H_was.free 1
            simp only [List.set_cons_zero, List.set_cons_succ, List.getElem?_cons_zero, List.getElem?_cons_succ] at c_was_0 c_was_1
            have c_then_0 := H_then.cell 0; have f_then_0 := H_then.free 0; have c_then_1 := H_then.cell 1; have f_then_1 := H_then.free 1
            simp only [List.set_cons_zero, List.set_cons_succ, List.getElem?_cons_zero, List.getElem?_cons_succ] at c_then_0 c_then_1
            have l_now := H_now.lt; have K_now := Lib.hid H_now; clear H_now
            have l_worst := H_worst.lt; have K_worst := Lib.hid H_worst; clear H_worst
            have l_x := H_x.lt; have K_x := Lib.hid H_x; clear H_x
            have l_was := H_was.lt; have K_was := Lib.hid H_was; clear H_was
            have l_then := H_then.lt; have K_then := Lib.hid H_then; clear H_then
            have KB := Lib.hid HB; clear HB
            go_wp2_with fail
            refine (LL.out ⟨_, _⟩ ⟨_, _⟩ _).mono ?_
            rintro e4 u4 ⟨rfl, hb⟩
            have H_now : Whole u4 (u1.heap.size) 23 _ := Whole.below K_now.out hb (by first | omega | (simp; done) | (simp; omega) | (simp at *; omega))
            have H_worst : Whole u4 (u1.heap.size + 1) 23 _ := Whole.below K_worst.out hb (by first | omega | (simp; done) | (simp; omega) | (simp at *; omega))
            have H_x : Whole u4 (wr.heap.size) 39 _ := Whole.below K_x.out hb (by first | omega | (simp; done) | (simp; omega) | (simp at *; omega))
            have H_was : Whole u4 (wr.heap.size + 1) 23 _ := Whole.below K_was.out hb (by first | omega | (simp; done) | (simp; omega) | (simp at *; omega))
            have H_then : Whole u4 (u2.heap.size) 23 _ := Whole.below K_then.out hb (by first | omega | (simp; done) | (simp; omega) | (simp at *; omega))
            have HB := KB.out.trans (hb.mono (by first | omega | (simp; done) | (simp; omega) | (simp at *; omega)))
            clear c_now_0 c_now_1 f_now_0 f_now_1 c_worst_0 c_worst_1 f_worst_0 f_worst_1 c_x_0 c_x_1 c_x_2 f_x_0 f_x_1 f_x_2 c_was_0 c_was_1 f_was_0 f_was_1 c_then_0 c_then_1 f_then_0 f_then_1 l_now l_worst l_x l_was l_then
            clear hb KB K_now K_worst K_x K_was K_then
            have z_u4 := HB.size
            have c_now_0 := H_now.cell 0; have f_now_0 := H_now.free 0; have c_now_1 := H_now.cell 1; have f_now_1 := H_now.free 1
            simp only [List.set_cons_zero, List.set_cons_succ, List.getElem?_cons_zero, List.getElem?_cons_succ] at c_now_0 c_now_1
            have c_worst_0 := H_worst.cell 0; have f_worst_0 := H_worst.free 0; have c_worst_1 := H_worst.cell 1; have f_worst_1 := H_worst.free 1
            simp only [List.set_cons_zero, List.set_cons_succ, List.getElem?_cons_zero, List.getElem?_cons_succ] at c_worst_0 c_worst_1
            have c_x_0 := H_x.cell 0; have f_x_0 := H_x.free 0; have c_x_1 := H_x.cell 1; have f_x_1 := H_x.free 1; have c_x_2 := H_x.cell 2; have f_x_2 := H_x.free 2
            simp only [List.set_cons_zero, List.set_cons_succ, List.getElem?_cons_zero, List.getElem?_cons_succ] at c_x_0 c_x_1 c_x_2
            have c_was_0 := H_was.cell 0; have f_was_0 := H_was.free 0; have c_was_1 := H_was.cell 1; have f_was_1 := H_was.free 1
            simp only [List.set_cons_zero, List.set_cons_succ, List.getElem?_cons_zero, List.getElem?_cons_succ] at c_was_0 c_was_1
            have c_then_0 := H_then.cell 0; have f_then_0 := H_then.free 0; have c_then_1 := H_then.cell 1; have f_then_1 := H_then.free 1
            simp only [List.set_cons_zero, List.set_cons_succ, List.getElem?_cons_zero, List.getElem?_cons_succ] at c_then_0 c_then_1
            have l_now := H_now.lt; have K_now := Lib.hid H_now; clear H_now
            have l_worst := H_worst.lt; have K_worst := Lib.hid H_worst; clear H_worst
            have l_x := H_x.lt; have K_x := Lib.hid H_x; clear H_x
            have l_was := H_was.lt; have K_was := Lib.hid H_was; clear H_was
            have l_then := H_then.lt; have K_then := Lib.hid H_then; clear H_then
            have KB := Lib.hid HB; clear HB
            go_wp2_with fail
            go_roundw
            case rel => exact ⟨k + 1, ⟨nr, np⟩, ⟨br, bp⟩, by omega, by go_num, ((K_now.out.far (p := ⟨u1.heap.size + 1, 0, none⟩) (by first | omega | (simp; done) | (simp; omega) | (simp at *; omega)) _).far (p := ⟨u1.heap.size + 1, 1, none⟩) (by first | omega | (simp; done) | (simp; omega) | (simp at *; omega)) _), ((K_worst.out.set 0 _).set 1 _), HI2.out, ((KB.out.setCell (p := ⟨u1.heap.size + 1, 0, none⟩) (by first | omega | (simp; done) | (simp; omega) | (simp at *; omega)) _).setCell (p := ⟨u1.heap.size + 1, 1, none⟩) (by first | omega | (simp; done) | (simp; omega) | (simp at *; omega)) _)⟩
            case measure => simp [intOf]; omega
      · have hz' : sameB ⟨br, bp⟩ ⟨0, 0⟩ = false := same_not.2 hz
        have HI2 := Lib.hid (inv_c HI.out hl)
        have hor := HI2.out.2
        clear hz
        cases q : sameB ⟨wor, wop⟩ ⟨0, 0⟩
        · have hwb : lessB ⟨wor, wop⟩ ⟨br, bp⟩ = true := by
            rcases hor with h | h
            · have := same_not.1 q; exact absurd h this
            · exact h
          clear hor
          have CP := promise_any ⟨nr, np⟩ ⟨br, bp⟩
          rw [hp] at CP
          simp only [Ba.cells] at CP
          have CP := Lib.hid CP
          by_cases i1 : i < 1
          ·
            clear hp
            have z_wr := HB.size
            have c_now_0 := H_now.cell 0; have f_now_0 := H_now.free 0; have c_now_1 := H_now.cell 1; have f_now_1 := H_now.free 1
            simp only [List.set_cons_zero, List.set_cons_succ, List.getElem?_cons_zero, List.getElem?_cons_succ] at c_now_0 c_now_1
            have c_worst_0 := H_worst.cell 0; have f_worst_0 := H_worst.free 0; have c_worst_1 := H_worst.cell 1; have f_worst_1 := H_worst.free 1
            simp only [List.set_cons_zero, List.set_cons_succ, List.getElem?_cons_zero, List.getElem?_cons_succ] at c_worst_0 c_worst_1
            have l_now := H_now.lt; have K_now := Lib.hid H_now; clear H_now
            have l_worst := H_worst.lt; have K_worst := Lib.hid H_worst; clear H_worst
            have KB := Lib.hid HB; clear HB
            go_wp2_with fail
            refine (CP.out _).mono ?_
            rintro e2 u2 ⟨rfl, hb⟩
            have H_now : Whole u2 (u1.heap.size) 23 _ := Whole.below ((K_now.out.alloc _).alloc _) hb (by first | omega | (simp; done) | (simp; omega) | (simp at *; omega))
            have H_worst : Whole u2 (u1.heap.size + 1) 23 _ := Whole.below ((K_worst.out.alloc _).alloc _) hb (by first | omega | (simp; done) | (simp; omega) | (simp at *; omega))
            have H_x : Whole u2 (wr.heap.size) 39 _ := Whole.below ((Whole.new _ 39 _).alloc _) hb (by first | omega | (simp; done) | (simp; omega) | (simp at *; omega))
            have H_was : Whole u2 (wr.heap.size + 1) 23 _ := Whole.below (wh_at wr 1 _ 23 _ (by simp)) hb (by first | omega | (simp; done) | (simp; omega) | (simp at *; omega))
            have HB := ((KB.out.alloc (by first | omega | (simp; done) | (simp; omega) | (simp at *; omega)) _).alloc (by first | omega | (simp; done) | (simp; omega) | (simp at *; omega)) _).trans (hb.mono (by first | omega | (simp; done) | (simp; omega) | (simp at *; omega)))
            clear c_now_0 c_now_1 f_now_0 f_now_1 c_worst_0 c_worst_1 f_worst_0 f_worst_1
            clear hb KB K_now K_worst
            have z_u2 := HB.size
            have c_now_0 := H_now.cell 0; have f_now_0 := H_now.free 0; have c_now_1 := H_now.cell 1; have f_now_1 := H_now.free 1
            simp only [List.set_cons_zero, List.set_cons_succ, List.getElem?_cons_zero, List.getElem?_cons_succ] at c_now_0 c_now_1
            have c_worst_0 := H_worst.cell 0; have f_worst_0 := H_worst.free 0; have c_worst_1 := H_worst.cell 1; have f_worst_1 := H_worst.free 1
            simp only [List.set_cons_zero, List.set_cons_succ, List.getElem?_cons_zero, List.getElem?_cons_succ] at c_worst_0 c_worst_1
            have c_x_0 := H_x.cell 0; have f_x_0 := H_x.free 0; have c_x_1 := H_x.cell 1; have f_x_1 := H_x.free 1; have c_x_2 := H_x.cell 2; have f_x_2 := H_x.free 2
            simp only [List.set_cons_zero, List.set_cons_succ, List.getElem?_cons_zero, List.getElem?_cons_succ] at c_x_0 c_x_1 c_x_2
            have c_was_0 := H_was.cell 0; have f_was_0 := H_was.free 0; have c_was_1 := H_was.cell 1; have f_was_1 := H_was.free 1
            simp only [List.set_cons_zero, List.set_cons_succ, List.getElem?_cons_zero, List.getElem?_cons_succ] at c_was_0 c_was_1
            have l_now := H_now.lt; have K_now := Lib.hid H_now; clear H_now
            have l_worst := H_worst.lt; have K_worst := Lib.hid H_worst; clear H_worst
            have l_x := H_x.lt; have K_x := Lib.hid H_x; clear H_x
            have l_was := H_was.lt; have K_was := Lib.hid H_was; clear H_was
            have KB := Lib.hid HB; clear HB
            go_wp2_with fail
            refine (LL.out ⟨_, _⟩ ⟨_, _⟩ _).mono ?_
            rintro e3 u3 ⟨rfl, hb⟩
            have H_now : Whole u3 (u1.heap.size) 23 _ := Whole.below ((K_now.out.set 0 _).set 1 _) hb (by first | omega | (simp; done) | (simp; omega) | (simp at *; omega))
            have H_worst : Whole u3 (u1.heap.size + 1) 23 _ := Whole.below ((K_worst.out.far (p := ⟨u1.heap.size, 0, none⟩) (by first | omega | (simp; done) | (simp; omega) | (simp at *; omega)) _).far (p := ⟨u1.heap.size, 1, none⟩) (by first | omega | (simp; done) | (simp; omega) | (simp at *; omega)) _) hb (by first | omega | (simp; done) | (simp; omega) | (simp at *; omega))
            have H_x : Whole u3 (wr.heap.size) 39 _ := Whole.below ((K_x.out.far (p := ⟨u1.heap.size, 0, none⟩) (by first | omega | (simp; done) | (simp; omega) | (simp at *; omega)) _).far (p := ⟨u1.heap.size, 1, none⟩) (by first | omega | (simp; done) | (simp; omega) | (simp at *; omega)) _) hb (by first | omega | (simp; done) | (simp; omega) | (simp at *; omega))
            have H_was : Whole u3 (wr.heap.size + 1) 23 _ := Whole.below ((K_was.out.far (p := ⟨u1.heap.size, 0, none⟩) (by first | omega | (simp; done) | (simp; omega) | (simp at *; omega)) _).far (p := ⟨u1.heap.size, 1, none⟩) (by first | omega | (simp; done) | (simp; omega) | (simp at *; omega)) _) hb (by first | omega | (simp; done) | (simp; omega) | (simp at *; omega))
            have HB := ((KB.out.setCell (p := ⟨u1.heap.size, 0, none⟩) (by first | omega | (simp; done) | (simp; omega) | (simp at *; omega)) _).setCell (p := ⟨u1.heap.size, 1, none⟩) (by first | omega | (simp; done) | (simp; omega) | (simp at *; omega)) _).trans (hb.mono (by first | omega | (simp; done) | (simp; omega) | (simp at *; omega)))
            clear c_now_0 c_now_1 f_now_0 f_now_1 c_worst_0 c_worst_1 f_worst_0 f_worst_1 c_x_0 c_x_1 c_x_2 f_x_0 f_x_1 f_x_2 c_was_0 c_was_1 f_was_0 f_was_1 l_now l_worst l_x l_was
            clear hb KB K_now K_worst K_x K_was
            have z_u3 := HB.size
            have c_now_0 := H_now.cell 0; have f_now_0 := H_now.free 0; have c_now_1 := H_now.cell 1; have f_now_1 := H_now.free 1
            simp only [List.set_cons_zero, List.set_cons_succ, List.getElem?_cons_zero, List.getElem?_cons_succ] at c_now_0 c_now_1
            have c_worst_0 := H_worst.cell 0; have f_worst_0 := H_worst.free 0; have c_worst_1 := H_worst.cell 1; have f_worst_1 := H_worst.free 1
            simp only [List.set_cons_zero, List.set_cons_succ, List.getElem?_cons_zero, List.getElem?_cons_succ] at c_worst_0 c_worst_1
            have c_x_0 := H_x.cell 0; have f_x_0 := H_x.free 0; have c_x_1 := H_x.cell 1; have f_x_1 := H_x.free 1; have c_x_2 := H_x.cell 2; have f_x_2 := H_x.free 2
            simp only [List.set_cons_zero, List.set_cons_succ, List.getElem?_cons_zero, List.getElem?_cons_succ] at c_x_0 c_x_1 c_x_2
            have c_was_0 := H_was.cell 0; have f_was_0 := H_was.free 0; have c_was_1 := H_was.cell 1; have f_was_1 := H_was.free 1
            simp only [List.set_cons_zero, List.set_cons_succ, List.getElem?_cons_zero, List.getElem?_cons_succ] at c_was_0 c_was_1
            have l_now := H_now.lt; have K_now := Lib.hid H_now; clear H_now
            have l_worst := H_worst.lt; have K_worst := Lib.hid H_worst; clear H_worst
            have l_x := H_x.lt; have K_x := Lib.hid H_x; clear H_x
            have l_was := H_was.lt; have K_was := Lib.hid H_was; clear H_was
            have KB := Lib.hid HB; clear HB
            go_wp2_with fail
            refine (LL.out ⟨_, _⟩ ⟨_, _⟩ _).mono ?_
            rintro e4 u4 ⟨rfl, hb⟩
            have H_now : Whole u4 (u1.heap.size) 23 _ := Whole.below K_now.out hb (by first | omega | (simp; done) | (simp; omega) | (simp at *; omega))
            have H_worst : Whole u4 (u1.heap.size + 1) 23 _ := Whole.below K_worst.out hb (by first | omega | (simp; done) | (simp; omega) | (simp at *; omega))
            have H_x : Whole u4 (wr.heap.size) 39 _ := Whole.below K_x.out hb (by first | omega | (simp; done) | (simp; omega) | (simp at *; omega))
            have H_was : Whole u4 (wr.heap.size + 1) 23 _ := Whole.below K_was.out hb (by first | omega | (simp; done) | (simp; omega) | (simp at *; omega))
            have HB := KB.out.trans (hb.mono (by first | omega | (simp; done) | (simp; omega) | (simp at *; omega)))
            clear c_now_0 c_now_1 f_now_0 f_now_1 c_worst_0 c_worst_1 f_worst_0 f_worst_1 c_x_0 c_x_1 c_x_2 f_x_0 f_x_1 f_x_2 c_was_0 c_was_1 f_was_0 f_was_1 l_now l_worst l_x l_was
            clear hb KB K_now K_worst K_x K_was
            have z_u4 := HB.size
            have c_now_0 := H_now.cell 0; have f_now_0 := H_now.free 0; have c_now_1 := H_now.cell 1; have f_now_1 := H_now.free 1
            simp only [List.set_cons_zero, List.set_cons_succ, List.getElem?_cons_zero, List.getElem?_cons_succ] at c_now_0 c_now_1
            have c_worst_0 := H_worst.cell 0; have f_worst_0 := H_worst.free 0; have c_worst_1 := H_worst.cell 1; have f_worst_1 := H_worst.free 1
            simp only [List.set_cons_zero, List.set_cons_succ, List.getElem?_cons_zero, List.getElem?_cons_succ] at c_worst_0 c_worst_1
            have c_x_0 := H_x.cell 0; have f_x_0 := H_x.free 0; have c_x_1 := H_x.cell 1; have f_x_1 := H_x.free 1; have c_x_2 := H_x.cell 2; have f_x_2 := H_x.free 2
            simp only [List.set_cons_zero, List.set_cons_succ, List.getElem?_cons_zero, List.getElem?_cons_succ] at c_x_0 c_x_1 c_x_2
            have c_was_0 := H_was.cell 0; have f_was_0 := H_was.free 0; have c_was_1 := H_was.cell 1; have f_was_1 := H_was.free 1
            simp only [List.set_cons_zero, List.set_cons_succ, List.getElem?_cons_zero, List.getElem?_cons_succ] at c_was_0 c_was_1
            have l_now := H_now.lt; have K_now := Lib.hid H_now; clear H_now
            have l_worst := H_worst.lt; have K_worst := Lib.hid H_worst; clear H_worst
            have l_x := H_x.lt; have K_x := Lib.hid H_x; clear H_x
            have l_was := H_was.lt; have K_was := Lib.hid H_was; clear H_was
            have KB := Lib.hid HB; clear HB
            go_wp2_with fail
            refine (LL.out ⟨_, _⟩ ⟨_, _⟩ _).mono ?_
            rintro e5 u5 ⟨rfl, hb⟩
            have H_now : Whole u5 (u1.heap.size) 23 _ := Whole.below K_now.out hb (by first | omega | (simp; done) | (simp; omega) | (simp at *; omega))
            have H_worst : Whole u5 (u1.heap.size + 1) 23 _ := Whole.below K_worst.out hb (by first | omega | (simp; done) | (simp; omega) | (simp at *; omega))
            have H_x : Whole u5 (wr.heap.size) 39 _ := Whole.below K_x.out hb (by first | omega | (simp; done) | (simp; omega) | (simp at *; omega))
            have H_was : Whole u5 (wr.heap.size + 1) 23 _ := Whole.below K_was.out hb (by first | omega | (simp; done) | (simp; omega) | (simp at *; omega))
            have HB := KB.out.trans (hb.mono (by first | omega | (simp; done) | (simp; omega) | (simp at *; omega)))
            clear c_now_0 c_now_1 f_now_0 f_now_1 c_worst_0 c_worst_1 f_worst_0 f_worst_1 c_x_0 c_x_1 c_x_2 f_x_0 f_x_1 f_x_2 c_was_0 c_was_1 f_was_0 f_was_1 l_now l_worst l_x l_was
            clear hb KB K_now K_worst K_x K_was
            have z_u5 := HB.size
            have c_now_0 := H_now.cell 0; have f_now_0 := H_now.free 0; have c_now_1 := H_now.cell 1; have f_now_1 := H_now.free 1
            simp only [List.set_cons_zero, List.set_cons_succ, List.getElem?_cons_zero, List.getElem?_cons_succ] at c_now_0 c_now_1
            have c_worst_0 := H_worst.cell 0; have f_worst_0 := H_worst.free 0; have c_worst_1 := H_worst.cell 1; have f_worst_1 := H_worst.free 1
            simp only [List.set_cons_zero, List.set_cons_succ, List.getElem?_cons_zero, List.getElem?_cons_succ] at c_worst_0 c_worst_1
            have c_x_0 := H_x.cell 0; have f_x_0 := H_x.free 0; have c_x_1 := H_x.cell 1; have f_x_1 := H_x.free 1; have c_x_2 := H_x.cell 2; have f_x_2 := H_x.free 2
            simp only [List.set_cons_zero, List.set_cons_succ, List.getElem?_cons_zero, List.getElem?_cons_succ] at c_x_0 c_x_1 c_x_2
            have c_was_0 := H_was.cell 0; have f_was_0 := H_was.free 0; have c_was_1 := H_was.cell 1; have f_was_1 := H_was.free 1
            simp only [List.set_cons_zero, List.set_cons_succ, List.getElem?_cons_zero, List.getElem?_cons_succ] at c_was_0 c_was_1
            have l_now := H_now.lt; have K_now := Lib.hid H_now; clear H_now
            have l_worst := H_worst.lt; have K_worst := Lib.hid H_worst; clear H_worst
            have l_x := H_x.lt; have K_x := Lib.hid H_x; clear H_x
            have l_was := H_was.lt; have K_was := Lib.hid H_was; clear H_was
            have KB := Lib.hid HB; clear HB
            go_wp2_with fail
            go_roundw
            case rel => exact ⟨k + 1, ⟨br, bp⟩, ⟨wor, wop⟩, by omega, by go_num, K_now.out, K_worst.out, HI2.out, KB.out⟩
            case measure => simp [intOf]; omega
          by_cases i2 : 1099511627776 < i
          ·
            clear hp
            have z_wr := HB.size
            have c_now_0 := H_now.cell 0; have f_now_0 := H_now.free 0; have c_now_1 := H_now.cell 1; have f_now_1 := H_now.free 1
            simp only [List.set_cons_zero, List.set_cons_succ, List.getElem?_cons_zero, List.getElem?_cons_succ] at c_now_0 c_now_1
            have c_worst_0 := H_worst.cell 0; have f_worst_0 := H_worst.free 0; have c_worst_1 := H_worst.cell 1; have f_worst_1 := H_worst.free 1
            simp only [List.set_cons_zero, List.set_cons_succ, List.getElem?_cons_zero, List.getElem?_cons_succ] at c_worst_0 c_worst_1
            have l_now := H_now.lt; have K_now := Lib.hid H_now; clear H_now
            have l_worst := H_worst.lt; have K_worst := Lib.hid H_worst; clear H_worst
            have KB := Lib.hid HB; clear HB
            go_wp2_with fail
            refine (CP.out _).mono ?_
            rintro e2 u2 ⟨rfl, hb⟩
            have H_now : Whole u2 (u1.heap.size) 23 _ := Whole.below ((K_now.out.alloc _).alloc _) hb (by first | omega | (simp; done) | (simp; omega) | (simp at *; omega))
            have H_worst : Whole u2 (u1.heap.size + 1) 23 _ := Whole.below ((K_worst.out.alloc _).alloc _) hb (by first | omega | (simp; done) | (simp; omega) | (simp at *; omega))
            have H_x : Whole u2 (wr.heap.size) 39 _ := Whole.below ((Whole.new _ 39 _).alloc _) hb (by first | omega | (simp; done) | (simp; omega) | (simp at *; omega))
            have H_was : Whole u2 (wr.heap.size + 1) 23 _ := Whole.below (wh_at wr 1 _ 23 _ (by simp)) hb (by first | omega | (simp; done) | (simp; omega) | (simp at *; omega))
            have HB := ((KB.out.alloc (by first | omega | (simp; done) | (simp; omega) | (simp at *; omega)) _).alloc (by first | omega | (simp; done) | (simp; omega) | (simp at *; omega)) _).trans (hb.mono (by first | omega | (simp; done) | (simp; omega) | (simp at *; omega)))
            clear c_now_0 c_now_1 f_now_0 f_now_1 c_worst_0 c_worst_1 f_worst_0 f_worst_1
            clear hb KB K_now K_worst
            have z_u2 := HB.size
            have c_now_0 := H_now.cell 0; have f_now_0 := H_now.free 0; have c_now_1 := H_now.cell 1; have f_now_1 := H_now.free 1
            simp only [List.set_cons_zero, List.set_cons_succ, List.getElem?_cons_zero, List.getElem?_cons_succ] at c_now_0 c_now_1
            have c_worst_0 := H_worst.cell 0; have f_worst_0 := H_worst.free 0; have c_worst_1 := H_worst.cell 1; have f_worst_1 := H_worst.free 1
            simp only [List.set_cons_zero, List.set_cons_succ, List.getElem?_cons_zero, List.getElem?_cons_succ] at c_worst_0 c_worst_1
            have c_x_0 := H_x.cell 0; have f_x_0 := H_x.free 0; have c_x_1 := H_x.cell 1; have f_x_1 := H_x.free 1; have c_x_2 := H_x.cell 2; have f_x_2 := H_x.free 2
            simp only [List.set_cons_zero, List.set_cons_succ, List.getElem?_cons_zero, List.getElem?_cons_succ] at c_x_0 c_x_1 c_x_2
            have c_was_0 := H_was.cell 0; have f_was_0 := H_was.free 0; have c_was_1 := H_was.cell 1; have f_was_1 := H_was.free 1
            simp only [List.set_cons_zero, List.set_cons_succ, List.getElem?_cons_zero, List.getElem?_cons_succ] at c_was_0 c_was_1
            have l_now := H_now.lt; have K_now := Lib.hid H_now; clear H_now
            have l_worst := H_worst.lt; have K_worst := Lib.hid H_worst; clear H_worst
            have l_x := H_x.lt; have K_x := Lib.hid H_x; clear H_x
            have l_was := H_was.lt; have K_was := Lib.hid H_was; clear H_was
            have KB := Lib.hid HB; clear HB
            go_wp2_with fail
            refine (LL.out ⟨_, _⟩ ⟨_, _⟩ _).mono ?_
            rintro e3 u3 ⟨rfl, hb⟩
            have H_now : Whole u3 (u1.heap.size) 23 _ := Whole.below ((K_now.out.set 0 _).set 1 _) hb (by first | omega | (simp; done) | (simp; omega) | (simp at *; omega))
            have H_worst : Whole u3 (u1.heap.size + 1) 23 _ := Whole.below ((K_worst.out.far (p := ⟨u1.heap.size, 0, none⟩) (by first | omega | (simp; done) | (simp; omega) | (simp at *; omega)) _).far (p := ⟨u1.heap.size, 1, none⟩) (by first | omega | (simp; done) | (simp; omega) | (simp at *; omega)) _) hb (by first | omega | (simp; done) | (simp; omega) | (simp at *; omega))
            have H_x : Whole u3 (wr.heap.size) 39 _ := Whole.below ((K_x.out.far (p := ⟨u1.heap.size, 0, none⟩) (by first | omega | (simp; done) | (simp; omega) | (simp at *; omega)) _).far (p := ⟨u1.heap.size, 1, none⟩) (by first | omega | (simp; done) | (simp; omega) | (simp at *; omega)) _) hb (by first | omega | (simp; done) | (simp; omega) | (simp at *; omega))
            have H_was : Whole u3 (wr.heap.size + 1) 23 _ := Whole.below ((K_was.out.far (p := ⟨u1.heap.size, 0, none⟩) (by first | omega | (simp; done) | (simp; omega) | (simp at *; omega)) _).far (p := ⟨u1.heap.size, 1, none⟩) (by first | omega | (simp; done) | (simp; omega) | (simp at *; omega)) _) hb (by first | omega | (simp; done) | (simp; omega) | (simp at *; omega))
            have HB := ((KB.out.setCell (p := ⟨u1.heap.size, 0, none⟩) (by first | omega | (simp; done) | (simp; omega) | (simp at *; omega)) _).setCell (p := ⟨u1.heap.size, 1, none⟩) (by first | omega | (simp; done) | (simp; omega) | (simp at *; omega)) _).trans (hb.mono (by first | omega | (simp; done) | (simp; omega) | (simp at *; omega)))
            clear c_now_0 c_now_1 f_now_0 f_now_1 c_worst_0 c_worst_1 f_worst_0 f_worst_1 c_x_0 c_x_1 c_x_2 f_x_0 f_x_1 f_x_2 c_was_0 c_was_1 f_was_0 f_was_1 l_now l_worst l_x l_was
            clear hb KB K_now K_worst K_x K_was
            have z_u3 := HB.size
            have c_now_0 := H_now.cell 0; have f_now_0 := H_now.free 0; have c_now_1 := H_now.cell 1; have f_now_1 := H_now.free 1
            simp only [List.set_cons_zero, List.set_cons_succ, List.getElem?_cons_zero, List.getElem?_cons_succ] at c_now_0 c_now_1
            have c_worst_0 := H_worst.cell 0; have f_worst_0 := H_worst.free 0; have c_worst_1 := H_worst.cell 1; have f_worst_1 := H_worst.free 1
            simp only [List.set_cons_zero, List.set_cons_succ, List.getElem?_cons_zero, List.getElem?_cons_succ] at c_worst_0 c_worst_1
            have c_x_0 := H_x.cell 0; have f_x_0 := H_x.free 0; have c_x_1 := H_x.cell 1; have f_x_1 := H_x.free 1; have c_x_2 := H_x.cell 2; have f_x_2 := H_x.free 2
            simp only [List.set_cons_zero, List.set_cons_succ, List.getElem?_cons_zero, List.getElem?_cons_succ] at c_x_0 c_x_1 c_x_2
            have c_was_0 := H_was.cell 0; have f_was_0 := H_was.free 0; have c_was_1 := H_was.cell 1; have f_was_1 := H_was.free 1
            simp only [List.set_cons_zero, List.set_cons_succ, List.getElem?_cons_zero, List.getElem?_cons_succ] at c_was_0 c_was_1
            have l_now := H_now.lt; have K_now := Lib.hid H_now; clear H_now
            have l_worst := H_worst.lt; have K_worst := Lib.hid H_worst; clear H_worst
            have l_x := H_x.lt; have K_x := Lib.hid H_x; clear H_x
            have l_was := H_was.lt; have K_was := Lib.hid H_was; clear H_was
            have KB := Lib.hid HB; clear HB
            go_wp2_with fail
            refine (LL.out ⟨_, _⟩ ⟨_, _⟩ _).mono ?_
            rintro e4 u4 ⟨rfl, hb⟩
            have H_now : Whole u4 (u1.heap.size) 23 _ := Whole.below K_now.out hb (by first | omega | (simp; done) | (simp; omega) | (simp at *; omega))
            have H_worst : Whole u4 (u1.heap.size + 1) 23 _ := Whole.below K_worst.out hb (by first | omega | (simp; done) | (simp; omega) | (simp at *; omega))
            have H_x : Whole u4 (wr.heap.size) 39 _ := Whole.below K_x.out hb (by first | omega | (simp; done) | (simp; omega) | (simp at *; omega))
            have H_was : Whole u4 (wr.heap.size + 1) 23 _ := Whole.below K_was.out hb (by first | omega | (simp; done) | (simp; omega) | (simp at *; omega))
            have HB := KB.out.trans (hb.mono (by first | omega | (simp; done) | (simp; omega) | (simp at *; omega)))
            clear c_now_0 c_now_1 f_now_0 f_now_1 c_worst_0 c_worst_1 f_worst_0 f_worst_1 c_x_0 c_x_1 c_x_2 f_x_0 f_x_1 f_x_2 c_was_0 c_was_1 f_was_0 f_was_1 l_now l_worst l_x l_was
            clear hb KB K_now K_worst K_x K_was
            have z_u4 := HB.size
            have c_now_0 := H_now.cell 0; have f_now_0 := H_now.free 0; have c_now_1 := H_now.cell 1; have f_now_1 := H_now.free 1
            simp only [List.set_cons_zero, List.set_cons_succ, List.getElem?_cons_zero, List.getElem?_cons_succ] at c_now_0 c_now_1
            have c_worst_0 := H_worst.cell 0; have f_worst_0 := H_worst.free 0; have c_worst_1 := H_worst.cell 1; have f_worst_1 := H_worst.free 1
            simp only [List.set_cons_zero, List.set_cons_succ, List.getElem?_cons_zero, List.getElem?_cons_succ] at c_worst_0 c_worst_1
            have c_x_0 := H_x.cell 0; have f_x_0 := H_x.free 0; have c_x_1 := H_x.cell 1; have f_x_1 := H_x.free 1; have c_x_2 := H_x.cell 2; have f_x_2 := H_x.free 2
            simp only [List.set_cons_zero, List.set_cons_succ, List.getElem?_cons_zero, List.getElem?_cons_succ] at c_x_0 c_x_1 c_x_2
            have c_was_0 := H_was.cell 0; have f_was_0 := H_was.free 0; have c_was_1 := H_was.cell 1; have f_was_1 := H_was.free 1
            simp only [List.set_cons_zero, List.set_cons_succ, List.getElem?_cons_zero, List.getElem?_cons_succ] at c_was_0 c_was_1
            have l_now := H_now.lt; have K_now := Lib.hid H_now; clear H_now
            have l_worst := H_worst.lt; have K_worst := Lib.hid H_worst; clear H_worst
            have l_x := H_x.lt; have K_x := Lib.hid H_x; clear H_x
            have l_was := H_was.lt; have K_was := Lib.hid H_was; clear H_was
            have KB := Lib.hid HB; clear HB
            go_wp2_with fail
            refine (LL.out ⟨_, _⟩ ⟨_, _⟩ _).mono ?_
            rintro e5 u5 ⟨rfl, hb⟩
            have H_now : Whole u5 (u1.heap.size) 23 _ := Whole.below K_now.out hb (by first | omega | (simp; done) | (simp; omega) | (simp at *; omega))
            have H_worst : Whole u5 (u1.heap.size + 1) 23 _ := Whole.below K_worst.out hb (by first | omega | (simp; done) | (simp; omega) | (simp at *; omega))
            have H_x : Whole u5 (wr.heap.size) 39 _ := Whole.below K_x.out hb (by first | omega | (simp; done) | (simp; omega) | (simp at *; omega))
            have H_was : Whole u5 (wr.heap.size + 1) 23 _ := Whole.below K_was.out hb (by first | omega | (simp; done) | (simp; omega) | (simp at *; omega))
            have HB := KB.out.trans (hb.mono (by first | omega | (simp; done) | (simp; omega) | (simp at *; omega)))
            clear c_now_0 c_now_1 f_now_0 f_now_1 c_worst_0 c_worst_1 f_worst_0 f_worst_1 c_x_0 c_x_1 c_x_2 f_x_0 f_x_1 f_x_2 c_was_0 c_was_1 f_was_0 f_was_1 l_now l_worst l_x l_was
            clear hb KB K_now K_worst K_x K_was
            have z_u5 := HB.size
            have c_now_0 := H_now.cell 0; have f_now_0 := H_now.free 0; have c_now_1 := H_now.cell 1; have f_now_1 := H_now.free 1
            simp only [List.set_cons_zero, List.set_cons_succ, List.getElem?_cons_zero, List.getElem?_cons_succ] at c_now_0 c_now_1
            have c_worst_0 := H_worst.cell 0; have f_worst_0 := H_worst.free 0; have c_worst_1 := H_worst.cell 1; have f_worst_1 := H_worst.free 1
            simp only [List.set_cons_zero, List.set_cons_succ, List.getElem?_cons_zero, List.getElem?_cons_succ] at c_worst_0 c_worst_1
            have c_x_0 := H_x.cell 0; have f_x_0 := H_x.free 0; have c_x_1 := H_x.cell 1; have f_x_1 := H_x.free 1; have c_x_2 := H_x.cell 2; have f_x_2 := H_x.free 2
            simp only [List.set_cons_zero, List.set_cons_succ, List.getElem?_cons_zero, List.getElem?_cons_succ] at c_x_0 c_x_1 c_x_2
            have c_was_0 := H_was.cell 0; have f_was_0 := H_was.free 0; have c_was_1 := H_was.cell 1; have f_was_1 := H_was.free 1
            simp only [List.set_cons_zero, List.set_cons_succ, List.getElem?_cons_zero, List.getElem?_cons_succ] at c_was_0 c_was_1
            have l_now := H_now.lt; have K_now := Lib.hid H_now; clear H_now
            have l_worst := H_worst.lt; have K_worst := Lib.hid H_worst; clear H_worst
            have l_x := H_x.lt; have K_x := Lib.hid H_x; clear H_x
            have l_was := H_was.lt; have K_was := Lib.hid H_was; clear H_was
            have KB := Lib.hid HB; clear HB
            go_wp2_with fail
            go_roundw
            case rel => exact ⟨k + 1, ⟨br, bp⟩, ⟨wor, wop⟩, by omega, by go_num, K_now.out, K_worst.out, HI2.out, KB.out⟩
            case measure => simp [intOf]; omega
          · have CA := accept_any ⟨nr, np⟩ ⟨br, bp⟩ s i
            have hww : (whereZ s i).2 ≠ 2 := by
              rcases where_cases s i with ⟨hb, _⟩ | ⟨_, _, h⟩ | ⟨_, _, _, h⟩ | ⟨_, _, _, h⟩
              · have : badW s i = false := badW_false.2 ⟨by omega, by omega, by omega, by omega⟩
                rw [this] at hb; cases hb
              all_goals rw [h]; decide
            rw [accept_ok_is hww hp] at CA
            have hd := done_ne (whereZ s i).1
            clear hww
            generalize doneZ (whereZ s i).1 = x at *
            obtain ⟨hd1, hd0⟩ := hd
            simp only [Ba.cells, if_true, if_false, Bool.false_eq_true] at CA
            have CA := Lib.hid CA
            clear hp
            have z_wr := HB.size
            have c_now_0 := H_now.cell 0; have f_now_0 := H_now.free 0; have c_now_1 := H_now.cell 1; have f_now_1 := H_now.free 1
            simp only [List.set_cons_zero, List.set_cons_succ, List.getElem?_cons_zero, List.getElem?_cons_succ] at c_now_0 c_now_1
            have c_worst_0 := H_worst.cell 0; have f_worst_0 := H_worst.free 0; have c_worst_1 := H_worst.cell 1; have f_worst_1 := H_worst.free 1
            simp only [List.set_cons_zero, List.set_cons_succ, List.getElem?_cons_zero, List.getElem?_cons_succ] at c_worst_0 c_worst_1
            have l_now := H_now.lt; have K_now := Lib.hid H_now; clear H_now
            have l_worst := H_worst.lt; have K_worst := Lib.hid H_worst; clear H_worst
            have KB := Lib.hid HB; clear HB
            go_wp2_with fail
            refine (CA.out _ (HT.out.below ((KB.out.alloc (by first | omega | (simp; done) | (simp; omega) | (simp at *; omega)) _).alloc (by first | omega | (simp; done) | (simp; omega) | (simp at *; omega)) _))).mono ?_
            rintro e2 u2 ⟨rfl, hb⟩
            have H_now : Whole u2 (u1.heap.size) 23 _ := Whole.below ((K_now.out.alloc _).alloc _) hb (by first | omega | (simp; done) | (simp; omega) | (simp at *; omega))
            have H_worst : Whole u2 (u1.heap.size + 1) 23 _ := Whole.below ((K_worst.out.alloc _).alloc _) hb (by first | omega | (simp; done) | (simp; omega) | (simp at *; omega))
            have H_x : Whole u2 (wr.heap.size) 39 _ := Whole.below ((Whole.new _ 39 _).alloc _) hb (by first | omega | (simp; done) | (simp; omega) | (simp at *; omega))
            have H_was : Whole u2 (wr.heap.size + 1) 23 _ := Whole.below (wh_at wr 1 _ 23 _ (by simp)) hb (by first | omega | (simp; done) | (simp; omega) | (simp at *; omega))
            have HB := ((KB.out.alloc (by first | omega | (simp; done) | (simp; omega) | (simp at *; omega)) _).alloc (by first | omega | (simp; done) | (simp; omega) | (simp at *; omega)) _).trans (hb.mono (by first | omega | (simp; done) | (simp; omega) | (simp at *; omega)))
            clear c_now_0 c_now_1 f_now_0 f_now_1 c_worst_0 c_worst_1 f_worst_0 f_worst_1
            clear hb KB K_now K_worst
            have z_u2 := HB.size
            have c_now_0 := H_now.cell 0; have f_now_0 := H_now.free 0; have c_now_1 := H_now.cell 1; have f_now_1 := H_now.free 1
            simp only [List.set_cons_zero, List.set_cons_succ, List.getElem?_cons_zero, List.getElem?_cons_succ] at c_now_0 c_now_1
            have c_worst_0 := H_worst.cell 0; have f_worst_0 := H_worst.free 0; have c_worst_1 := H_worst.cell 1; have f_worst_1 := H_worst.free 1
            simp only [List.set_cons_zero, List.set_cons_succ, List.getElem?_cons_zero, List.getElem?_cons_succ] at c_worst_0 c_worst_1
            have c_x_0 := H_x.cell 0; have f_x_0 := H_x.free 0; have c_x_1 := H_x.cell 1; have f_x_1 := H_x.free 1; have c_x_2 := H_x.cell 2; have f_x_2 := H_x.free 2
            simp only [List.set_cons_zero, List.set_cons_succ, List.getElem?_cons_zero, List.getElem?_cons_succ] at c_x_0 c_x_1 c_x_2
            have c_was_0 := H_was.cell 0; have f_was_0 := H_was.free 0; have c_was_1 := H_was.cell 1; have f_was_1 := H_was.free 1
            simp only [List.set_cons_zero, List.set_cons_succ, List.getElem?_cons_zero, List.getElem?_cons_succ] at c_was_0 c_was_1
            have l_now := H_now.lt; have K_now := Lib.hid H_now; clear H_now
            have l_worst := H_worst.lt; have K_worst := Lib.hid H_worst; clear H_worst
            have l_x := H_x.lt; have K_x := Lib.hid H_x; clear H_x
            have l_was := H_was.lt; have K_was := Lib.hid H_was; clear H_was
            have KB := Lib.hid HB; clear HB
            go_wp2_with fail
            refine (LL.out ⟨_, _⟩ ⟨_, _⟩ _).mono ?_
            rintro e3 u3 ⟨rfl, hb⟩
            have H_now : Whole u3 (u1.heap.size) 23 _ := Whole.below (((K_now.out.set 0 _).set 1 _).alloc _) hb (by first | omega | (simp; done) | (simp; omega) | (simp at *; omega))
            have H_worst : Whole u3 (u1.heap.size + 1) 23 _ := Whole.below (((K_worst.out.far (p := ⟨u1.heap.size, 0, none⟩) (by first | omega | (simp; done) | (simp; omega) | (simp at *; omega)) _).far (p := ⟨u1.heap.size, 1, none⟩) (by first | omega | (simp; done) | (simp; omega) | (simp at *; omega)) _).alloc _) hb (by first | omega | (simp; done) | (simp; omega) | (simp at *; omega))
            have H_x : Whole u3 (wr.heap.size) 39 _ := Whole.below (((K_x.out.far (p := ⟨u1.heap.size, 0, none⟩) (by first | omega | (simp; done) | (simp; omega) | (simp at *; omega)) _).far (p := ⟨u1.heap.size, 1, none⟩) (by first | omega | (simp; done) | (simp; omega) | (simp at *; omega)) _).alloc _) hb (by first | omega | (simp; done) | (simp; omega) | (simp at *; omega))
            have H_was : Whole u3 (wr.heap.size + 1) 23 _ := Whole.below (((K_was.out.far (p := ⟨u1.heap.size, 0, none⟩) (by first | omega | (simp; done) | (simp; omega) | (simp at *; omega)) _).far (p := ⟨u1.heap.size, 1, none⟩) (by first | omega | (simp; done) | (simp; omega) | (simp at *; omega)) _).alloc _) hb (by first | omega | (simp; done) | (simp; omega) | (simp at *; omega))
            have H_then : Whole u3 (u2.heap.size) 23 _ := Whole.below (wh_at0 u2 _ 23 _ (by simp [size_set])) hb (by first | omega | (simp; done) | (simp; omega) | (simp at *; omega))
            have HB := (((KB.out.setCell (p := ⟨u1.heap.size, 0, none⟩) (by first | omega | (simp; done) | (simp; omega) | (simp at *; omega)) _).setCell (p := ⟨u1.heap.size, 1, none⟩) (by first | omega | (simp; done) | (simp; omega) | (simp at *; omega)) _).alloc (by first | omega | (simp; done) | (simp; omega) | (simp at *; omega)) _).trans (hb.mono (by first | omega | (simp; done) | (simp; omega) | (simp at *; omega)))
            clear c_now_0 c_now_1 f_now_0 f_now_1 c_worst_0 c_worst_1 f_worst_0 f_worst_1 c_x_0 c_x_1 c_x_2 f_x_0 f_x_1 f_x_2 c_was_0 c_was_1 f_was_0 f_was_1
            clear hb KB K_now K_worst K_x K_was
            have z_u3 := HB.size
            have c_now_0 := H_now.cell 0; have f_now_0 := H_now.free 0; have c_now_1 := H_now.cell 1; have f_now_1 := H_now.free 1
            simp only [List.set_cons_zero, List.set_cons_succ, List.getElem?_cons_zero, List.getElem?_cons_succ] at c_now_0 c_now_1
            have c_worst_0 := H_worst.cell 0; have f_worst_0 := H_worst.free 0; have c_worst_1 := H_worst.cell 1; have f_worst_1 := H_worst.free 1
            simp only [List.set_cons_zero, List.set_cons_succ, List.getElem?_cons_zero, List.getElem?_cons_succ] at c_worst_0 c_worst_1
            have c_x_0 := H_x.cell 0; have f_x_0 := H_x.free 0; have c_x_1 := H_x.cell 1; have f_x_1 := H_x.free 1; have c_x_2 := H_x.cell 2; have f_x_2 := H_x.free 2
            simp only [List.set_cons_zero, List.set_cons_succ, List.getElem?_cons_zero, List.getElem?_cons_succ] at c_x_0 c_x_1 c_x_2
            have c_was_0 := H_was.cell 0; have f_was_0 := H_was.free 0; have c_was_1 := H_was.cell 1; have f_was_1 := H_was.free 1
            simp only [List.set_cons_zero, List.set_cons_succ, List.getElem?_cons_zero, List.getElem?_cons_succ] at c_was_0 c_was_1
            have c_then_0 := H_then.cell 0; have f_then_0 := H_then.free 0; have c_then_1 := H_then.cell 1; have f_then_1 := H_then.free 1
            simp only [List.set_cons_zero, List.set_cons_succ, List.getElem?_cons_zero, List.getElem?_cons_succ] at c_then_0 c_then_1
            have l_now := H_now.lt; have K_now := Lib.hid H_now; clear H_now
            have l_worst := H_worst.lt; have K_worst := Lib.hid H_worst; clear H_worst
            have l_x := H_x.lt; have K_x := Lib.hid H_x; clear H_x
            have l_was := H_was.lt; have K_was := Lib.hid H_was; clear H_was
            have l_then := H_then.lt; have K_then := Lib.hid H_then; clear H_then
            have KB := Lib.hid HB; clear HB
            go_wp2_with fail
            refine (LL.out ⟨_, _⟩ ⟨_, _⟩ _).mono ?_
            rintro e4 u4 ⟨rfl, hb⟩
            have H_now : Whole u4 (u1.heap.size) 23 _ := Whole.below K_now.out hb (by first | omega | (simp; done) | (simp; omega) | (simp at *; omega))
            have H_worst : Whole u4 (u1.heap.size + 1) 23 _ := Whole.below K_worst.out hb (by first | omega | (simp; done) | (simp; omega) | (simp at *; omega))
            have H_x : Whole u4 (wr.heap.size) 39 _ := Whole.below K_x.out hb (by first | omega | (simp; done) | (simp; omega) | (simp at *; omega))
            have H_was : Whole u4 (wr.heap.size + 1) 23 _ := Whole.below K_was.out hb (by first | omega | (simp; done) | (simp; omega) | (simp at *; omega))
            have H_then : Whole u4 (u2.heap.size) 23 _ := Whole.below K_then.out hb (by first | omega | (simp; done) | (simp; omega) | (simp at *; omega))
            have HB := KB.out.trans (hb.mono (by first | omega | (simp; done) | (simp; omega) | (simp at *; omega)))
            clear c_now_0 c_now_1 f_now_0 f_now_1 c_worst_0 c_worst_1 f_worst_0 f_worst_1 c_x_0 c_x_1 c_x_2 f_x_0 f_x_1 f_x_2 c_was_0 c_was_1 f_was_0 f_was_1 c_then_0 c_then_1 f_then_0 f_then_1 l_now l_worst l_x l_was l_then
            clear hb KB K_now K_worst K_x K_was K_then
            have z_u4 := HB.size
            have c_now_0 := H_now.cell 0; have f_now_0 := H_now.free 0; have c_now_1 := H_now.cell 1; have f_now_1 := H_now.free 1
            simp only [List.set_cons_zero, List.set_cons_succ, List.getElem?_cons_zero, List.getElem?_cons_succ] at c_now_0 c_now_1
            have c_worst_0 := H_worst.cell 0; have f_worst_0 := H_worst.free 0; have c_worst_1 := H_worst.cell 1; have f_worst_1 := H_worst.free 1
            simp only [List.set_cons_zero, List.set_cons_succ, List.getElem?_cons_zero, List.getElem?_cons_succ] at c_worst_0 c_worst_1
            have c_x_0 := H_x.cell 0; have f_x_0 := H_x.free 0; have c_x_1 := H_x.cell 1; have f_x_1 := H_x.free 1; have c_x_2 := H_x.cell 2; have f_x_2 := H_x.free 2
            simp only [List.set_cons_zero, List.set_cons_succ, List.getElem?_cons_zero, List.getElem?_cons_succ] at c_x_0 c_x_1 c_x_2
            have c_was_0 := H_was.cell 0; have f_was_0 := H_was.free 0; have c_was_1 := H_was.cell 1; have f_was_1 := H_was.free 1
            simp only [List.set_cons_zero, List.set_cons_succ, List.getElem?_cons_zero, List.getElem?_cons_succ] at c_was_0 c_was_1
            have c_then_0 := H_then.cell 0; have f_then_0 := H_then.free 0; have c_then_1 := H_then.cell 1; have f_then_1 := H_then.free 1
            simp only [List.set_cons_zero, List.set_cons_succ, List.getElem?_cons_zero, List.getElem?_cons_succ] at c_then_0 c_then_1
            have l_now := H_now.lt; have K_now := Lib.hid H_now; clear H_now
            have l_worst := H_worst.lt; have K_worst := Lib.hid H_worst; clear H_worst
            have l_x := H_x.lt; have K_x := Lib.hid H_x; clear H_x
            have l_was := H_was.lt; have K_was := Lib.hid H_was; clear H_was
            have l_then := H_then.lt; have K_then := Lib.hid H_then; clear H_then
            have KB := Lib.hid HB; clear HB
            go_wp2_with fail
            refine (LL.out ⟨_, _⟩ ⟨_, _⟩ _).mono ?_
            rintro e5 u5 ⟨rfl, hb⟩
            have H_now : Whole u5 (u1.heap.size) 23 _ := Whole.below K_now.out hb (by first | omega | (simp; done) | (simp; omega) | (simp at *; omega))
            have H_worst : Whole u5 (u1.heap.size + 1) 23 _ := Whole.below K_worst.out hb (by first | omega | (simp; done) | (simp; omega) | (simp at *; omega))
            have H_x : Whole u5 (wr.heap.size) 39 _ := Whole.below K_x.out hb (by first | omega | (simp; done) | (simp; omega) | (simp at *; omega))
            have H_was : Whole u5 (wr.heap.size + 1) 23 _ := Whole.below K_was.out hb (by first | omega | (simp; done) | (simp; omega) | (simp at *; omega))
            have H_then : Whole u5 (u2.heap.size) 23 _ := Whole.below K_then.out hb (by first | omega | (simp; done) | (simp; omega) | (simp at *; omega))
            have HB := KB.out.trans (hb.mono (by first | omega | (simp; done) | (simp; omega) | (simp at *; omega)))
            clear c_now_0 c_now_1 f_now_0 f_now_1 c_worst_0 c_worst_1 f_worst_0 f_worst_1 c_x_0 c_x_1 c_x_2 f_x_0 f_x_1 f_x_2 c_was_0 c_was_1 f_was_0 f_was_1 c_then_0 c_then_1 f_then_0 f_then_1 l_now l_worst l_x l_was l_then
            clear hb KB K_now K_worst K_x K_was K_then
            have z_u5 := HB.size
            have c_now_0 := H_now.cell 0; have f_now_0 := H_now.free 0; have c_now_1 := H_now.cell 1; have f_now_1 := H_now.free 1
            simp only [List.set_cons_zero, List.set_cons_succ, List.getElem?_cons_zero, List.getElem?_cons_succ] at c_now_0 c_now_1
            have c_worst_0 := H_worst.cell 0; have f_worst_0 := H_worst.free 0; have c_worst_1 := H_worst.cell 1; have f_worst_1 := H_worst.free 1
            simp only [List.set_cons_zero, List.set_cons_succ, List.getElem?_cons_zero, List.getElem?_cons_succ] at c_worst_0 c_worst_1
            have c_x_0 := H_x.cell 0; have f_x_0 := H_x.free 0; have c_x_1 := H_x.cell 1; have f_x_1 := H_x.free 1; have c_x_2 := H_x.cell 2; have f_x_2 := H_x.free 2
            simp only [List.set_cons_zero, List.set_cons_succ, List.getElem?_cons_zero, List.getElem?_cons_succ] at c_x_0 c_x_1 c_x_2
            have c_was_0 := H_was.cell 0; have f_was_0 := H_was.free 0; have c_was_1 := H_was.cell 1; have f_was_1 := H_was.free 1
            simp only [List.set_cons_zero, List.set_cons_succ, List.getElem?_cons_zero, List.getElem?_cons_succ] at c_was_0 c_was_1
            have c_then_0 := H_then.cell 0; have f_then_0 := H_then.free 0; have c_then_1 := H_then.cell 1; have f_then_1 := H_then.free 1
            simp only [List.set_cons_zero, List.set_cons_succ, List.getElem?_cons_zero, List.getElem?_cons_succ] at c_then_0 c_then_1
            have l_now := H_now.lt; have K_now := Lib.hid H_now; clear H_now
            have l_worst := H_worst.lt; have K_worst := Lib.hid H_worst; clear H_worst
            have l_x := H_x.lt; have K_x := Lib.hid H_x; clear H_x
            have l_was := H_was.lt; have K_was := Lib.hid H_was; clear H_was
            have l_then := H_then.lt; have K_then := Lib.hid H_then; clear H_then
            have KB := Lib.hid HB; clear HB
            go_wp2_with fail
            go_roundw
            case rel => exact ⟨k + 1, ⟨br, bp⟩, ⟨wor, wop⟩, by omega, by go_num, K_now.out, K_worst.out, HI2.out, KB.out⟩
            case measure => simp [intOf]; omega
        · clear hor
          have CP := promise_any ⟨nr, np⟩ ⟨br, bp⟩
          rw [hp] at CP
          simp only [Ba.cells] at CP
          have CP := Lib.hid CP
          by_cases i1 : i < 1
          ·
            clear hp
            have z_wr := HB.size
            have c_now_0 := H_now.cell 0; have f_now_0 := H_now.free 0; have c_now_1 := H_now.cell 1; have f_now_1 := H_now.free 1
            simp only [List.set_cons_zero, List.set_cons_succ, List.getElem?_cons_zero, List.getElem?_cons_succ] at c_now_0 c_now_1
            have c_worst_0 := H_worst.cell 0; have f_worst_0 := H_worst.free 0; have c_worst_1 := H_worst.cell 1; have f_worst_1 := H_worst.free 1
            simp only [List.set_cons_zero, List.set_cons_succ, List.getElem?_cons_zero, List.getElem?_cons_succ] at c_worst_0 c_worst_1
            have l_now := H_now.lt; have K_now := Lib.hid H_now; clear H_now
            have l_worst := H_worst.lt; have K_worst := Lib.hid H_worst; clear H_worst
            have KB := Lib.hid HB; clear HB
            go_wp2_with fail
            refine (CP.out _).mono ?_
            rintro e2 u2 ⟨rfl, hb⟩
            have H_now : Whole u2 (u1.heap.size) 23 _ := Whole.below ((K_now.out.alloc _).alloc _) hb (by first | omega | (simp; done) | (simp; omega) | (simp at *; omega))
            have H_worst : Whole u2 (u1.heap.size + 1) 23 _ := Whole.below ((K_worst.out.alloc _).alloc _) hb (by first | omega | (simp; done) | (simp; omega) | (simp at *; omega))
            have H_x : Whole u2 (wr.heap.size) 39 _ := Whole.below ((Whole.new _ 39 _).alloc _) hb (by first | omega | (simp; done) | (simp; omega) | (simp at *; omega))
            have H_was : Whole u2 (wr.heap.size + 1) 23 _ := Whole.below (wh_at wr 1 _ 23 _ (by simp)) hb (by first | omega | (simp; done) | (simp; omega) | (simp at *; omega))
            have HB := ((KB.out.alloc (by first | omega | (simp; done) | (simp; omega) | (simp at *; omega)) _).alloc (by first | omega | (simp; done) | (simp; omega) | (simp at *; omega)) _).trans (hb.mono (by first | omega | (simp; done) | (simp; omega) | (simp at *; omega)))
            clear c_now_0 c_now_1 f_now_0 f_now_1 c_worst_0 c_worst_1 f_worst_0 f_worst_1
            clear hb KB K_now K_worst
            have z_u2 := HB.size
            have c_now_0 := H_now.cell 0; have f_now_0 := H_now.free 0; have c_now_1 := H_now.cell 1; have f_now_1 := H_now.free 1
            simp only [List.set_cons_zero, List.set_cons_succ, List.getElem?_cons_zero, List.getElem?_cons_succ] at c_now_0 c_now_1
            have c_worst_0 := H_worst.cell 0; have f_worst_0 := H_worst.free 0; have c_worst_1 := H_worst.cell 1; have f_worst_1 := H_worst.free 1
            simp only [List.set_cons_zero, List.set_cons_succ, List.getElem?_cons_zero, List.getElem?_cons_succ] at c_worst_0 c_worst_1
            have c_x_0 := H_x.cell 0; have f_x_0 := H_x.free 0; have c_x_1 := H_x.cell 1; have f_x_1 := H_x.free 1; have c_x_2 := H_x.cell 2; have f_x_2 := H_x.free 2
            simp only [List.set_cons_zero, List.set_cons_succ, List.getElem?_cons_zero, List.getElem?_cons_succ] at c_x_0 c_x_1 c_x_2
            have c_was_0 := H_was.cell 0; have f_was_0 := H_was.free 0; have c_was_1 := H_was.cell 1; have f_was_1 := H_was.free 1
            simp only [List.set_cons_zero, List.set_cons_succ, List.getElem?_cons_zero, List.getElem?_cons_succ] at c_was_0 c_was_1
            have l_now := H_now.lt; have K_now := Lib.hid H_now; clear H_now
            have l_worst := H_worst.lt; have K_worst := Lib.hid H_worst; clear H_worst
            have l_x := H_x.lt; have K_x := Lib.hid H_x; clear H_x
            have l_was := H_was.lt; have K_was := Lib.hid H_was; clear H_was
            have KB := Lib.hid HB; clear HB
            go_wp2_with fail
            refine (LL.out ⟨_, _⟩ ⟨_, _⟩ _).mono ?_
            rintro e3 u3 ⟨rfl, hb⟩
            have H_now : Whole u3 (u1.heap.size) 23 _ := Whole.below ((K_now.out.set 0 _).set 1 _) hb (by first | omega | (simp; done) | (simp; omega) | (simp at *; omega))
            have H_worst : Whole u3 (u1.heap.size + 1) 23 _ := Whole.below ((K_worst.out.far (p := ⟨u1.heap.size, 0, none⟩) (by first | omega | (simp; done) | (simp; omega) | (simp at *; omega)) _).far (p := ⟨u1.heap.size, 1, none⟩) (by first | omega | (simp; done) | (simp; omega) | (simp at *; omega)) _) hb (by first | omega | (simp; done) | (simp; omega) | (simp at *; omega))
            have H_x : Whole u3 (wr.heap.size) 39 _ := Whole.below ((K_x.out.far (p := ⟨u1.heap.size, 0, none⟩) (by first | omega | (simp; done) | (simp; omega) | (simp at *; omega)) _).far (p := ⟨u1.heap.size, 1, none⟩) (by first | omega | (simp; done) | (simp; omega) | (simp at *; omega)) _) hb (by first | omega | (simp; done) | (simp; omega) | (simp at *; omega))
            have H_was : Whole u3 (wr.heap.size + 1) 23 _ := Whole.below ((K_was.out.far (p := ⟨u1.heap.size, 0, none⟩) (by first | omega | (simp; done) | (simp; omega) | (simp at *; omega)) _).far (p := ⟨u1.heap.size, 1, none⟩) (by first | omega | (simp; done) | (simp; omega) | (simp at *; omega)) _) hb (by first | omega | (simp; done) | (simp; omega) | (simp at *; omega))
            have HB := ((KB.out.setCell (p := ⟨u1.heap.size, 0, none⟩) (by first | omega | (simp; done) | (simp; omega) | (simp at *; omega)) _).setCell (p := ⟨u1.heap.size, 1, none⟩) (by first | omega | (simp; done) | (simp; omega) | (simp at *; omega)) _).trans (hb.mono (by first | omega | (simp; done) | (simp; omega) | (simp at *; omega)))
            clear c_now_0 c_now_1 f_now_0 f_now_1 c_worst_0 c_worst_1 f_worst_0 f_worst_1 c_x_0 c_x_1 c_x_2 f_x_0 f_x_1 f_x_2 c_was_0 c_was_1 f_was_0 f_was_1 l_now l_worst l_x l_was
            clear hb KB K_now K_worst K_x K_was
            have z_u3 := HB.size
            have c_now_0 := H_now.cell 0; have f_now_0 := H_now.free 0; have c_now_1 := H_now.cell 1; have f_now_1 := H_now.free 1
            simp only [List.set_cons_zero, List.set_cons_succ, List.getElem?_cons_zero, List.getElem?_cons_succ] at c_now_0 c_now_1
            have c_worst_0 := H_worst.cell 0; have f_worst_0 := H_worst.free 0; have c_worst_1 := H_worst.cell 1; have f_worst_1 := H_worst.free 1
            simp only [List.set_cons_zero, List.set_cons_succ, List.getElem?_cons_zero, List.getElem?_cons_succ] at c_worst_0 c_worst_1
            have c_x_0 := H_x.cell 0; have f_x_0 := H_x.free 0; have c_x_1 := H_x.cell 1; have f_x_1 := H_x.free 1; have c_x_2 := H_x.cell 2; have f_x_2 := H_x.free 2
            simp only [List.set_cons_zero, List.set_cons_succ, List.getElem?_cons_zero, List.getElem?_cons_succ] at c_x_0 c_x_1 c_x_2
            have c_was_0 := H_was.cell 0; have f_was_0 := H_was.free 0; have c_was_1 := H_was.cell 1; have f_was_1 := H_was.free 1
            simp only [List.set_cons_zero, List.set_cons_succ, List.getElem?_cons_zero, List.getElem?_cons_succ] at c_was_0 c_was_1
            have l_now := H_now.lt; have K_now := Lib.hid H_now; clear H_now
            have l_worst := H_worst.lt; have K_worst := Lib.hid H_worst; clear H_worst
            have l_x := H_x.lt; have K_x := Lib.hid H_x; clear H_x
            have l_was := H_was.lt; have K_was := Lib.hid H_was; clear H_was
            have KB := Lib.hid HB; clear HB
            go_wp2_with fail
            refine (LL.out ⟨_, _⟩ ⟨_, _⟩ _).mono ?_
            rintro e4 u4 ⟨rfl, hb⟩
            have H_now : Whole u4 (u1.heap.size) 23 _ := Whole.below K_now.out hb (by first | omega | (simp; done) | (simp; omega) | (simp at *; omega))
            have H_worst : Whole u4 (u1.heap.size + 1) 23 _ := Whole.below K_worst.out hb (by first | omega | (simp; done) | (simp; omega) | (simp at *; omega))
            have H_x : Whole u4 (wr.heap.size) 39 _ := Whole.below K_x.out hb (by first | omega | (simp; done) | (simp; omega) | (simp at *; omega))
            have H_was : Whole u4 (wr.heap.size + 1) 23 _ := Whole.below K_was.out hb (by first | omega | (simp; done) | (simp; omega) | (simp at *; omega))
            have HB := KB.out.trans (hb.mono (by first | omega | (simp; done) | (simp; omega) | (simp at *; omega)))
            clear c_now_0 c_now_1 f_now_0 f_now_1 c_worst_0 c_worst_1 f_worst_0 f_worst_1 c_x_0 c_x_1 c_x_2 f_x_0 f_x_1 f_x_2 c_was_0 c_was_1 f_was_0 f_was_1 l_now l_worst l_x l_was
            clear hb KB K_now K_worst K_x K_was
            have z_u4 := HB.size
            have c_now_0 := H_now.cell 0; have f_now_0 := H_now.free 0; have c_now_1 := H_now.cell 1; have f_now_1 := H_now.free 1
            simp only [List.set_cons_zero, List.set_cons_succ, List.getElem?_cons_zero, List.getElem?_cons_succ] at c_now_0 c_now_1
            have c_worst_0 := H_worst.cell 0; have f_worst_0 := H_worst.free 0; have c_worst_1 := H_worst.cell 1; have f_worst_1 := H_worst.free 1
            simp only [List.set_cons_zero, List.set_cons_succ, List.getElem?_cons_zero, List.getElem?_cons_succ] at c_worst_0 c_worst_1
            have c_x_0 := H_x.cell 0; have f_x_0 := H_x.free 0; have c_x_1 := H_x.cell 1; have f_x_1 := H_x.free 1; have c_x_2 := H_x.cell 2; have f_x_2 := H_x.free 2
            simp only [List.set_cons_zero, List.set_cons_succ, List.getElem?_cons_zero, List.getElem?_cons_succ] at c_x_0 c_x_1 c_x_2
            have c_was_0 := H_was.cell 0; have f_was_0 := H_was.free 0; have c_was_1 := H_was.cell 1; have f_was_1 := H_was.free 1
            simp only [List.set_cons_zero, List.set_cons_succ, List.getElem?_cons_zero, List.getElem?_cons_succ] at c_was_0 c_was_1
            have l_now := H_now.lt; have K_now := Lib.hid H_now; clear H_now
            have l_worst := H_worst.lt; have K_worst := Lib.hid H_worst; clear H_worst
            have l_x := H_x.lt; have K_x := Lib.hid H_x; clear H_x
            have l_was := H_was.lt; have K_was := Lib.hid H_was; clear H_was
            have KB := Lib.hid HB; clear HB
            go_wp2_with fail
            go_roundw
            case rel => exact ⟨k + 1, ⟨br, bp⟩, ⟨wor, wop⟩, by omega, by go_num, K_now.out, K_worst.out, HI2.out, KB.out⟩
            case measure => simp [intOf]; omega
          by_cases i2 : 1099511627776 < i
          ·
            clear hp
            have z_wr := HB.size
            have c_now_0 := H_now.cell 0; have f_now_0 := H_now.free 0; have c_now_1 := H_now.cell 1; have f_now_1 := H_now.free 1
            simp only [List.set_cons_zero, List.set_cons_succ, List.getElem?_cons_zero, List.getElem?_cons_succ] at c_now_0 c_now_1
            have c_worst_0 := H_worst.cell 0; have f_worst_0 := H_worst.free 0; have c_worst_1 := H_worst.cell 1; have f_worst_1 := H_worst.free 1
            simp only [List.set_cons_zero, List.set_cons_succ, List.getElem?_cons_zero, List.getElem?_cons_succ] at c_worst_0 c_worst_1
            have l_now := H_now.lt; have K_now := Lib.hid H_now; clear H_now
            have l_worst := H_worst.lt; have K_worst := Lib.hid H_worst; clear H_worst
            have KB := Lib.hid HB; clear HB
            go_wp2_with fail
            refine (CP.out _).mono ?_
            rintro e2 u2 ⟨rfl, hb⟩
            have H_now : Whole u2 (u1.heap.size) 23 _ := Whole.below ((K_now.out.alloc _).alloc _) hb (by first | omega | (simp; done) | (simp; omega) | (simp at *; omega))
            have H_worst : Whole u2 (u1.heap.size + 1) 23 _ := Whole.below ((K_worst.out.alloc _).alloc _) hb (by first | omega | (simp; done) | (simp; omega) | (simp at *; omega))
            have H_x : Whole u2 (wr.heap.size) 39 _ := Whole.below ((Whole.new _ 39 _).alloc _) hb (by first | omega | (simp; done) | (simp; omega) | (simp at *; omega))
            have H_was : Whole u2 (wr.heap.size + 1) 23 _ := Whole.below (wh_at wr 1 _ 23 _ (by simp)) hb (by first | omega | (simp; done) | (simp; omega) | (simp at *; omega))
            have HB := ((KB.out.alloc (by first | omega | (simp; done) | (simp; omega) | (simp at *; omega)) _).alloc (by first | omega | (simp; done) | (simp; omega) | (simp at *; omega)) _).trans (hb.mono (by first | omega | (simp; done) | (simp; omega) | (simp at *; omega)))
            clear c_now_0 c_now_1 f_now_0 f_now_1 c_worst_0 c_worst_1 f_worst_0 f_worst_1
            clear hb KB K_now K_worst
            have z_u2 := HB.size
            have c_now_0 := H_now.cell 0; have f_now_0 := H_now.free 0; have c_now_1 := H_now.cell 1; have f_now_1 := H_now.free 1
            simp only [List.set_cons_zero, List.set_cons_succ, List.getElem?_cons_zero, List.getElem?_cons_succ] at c_now_0 c_now_1
            have c_worst_0 := H_worst.cell 0; have f_worst_0 := H_worst.free 0; have c_worst_1 := H_worst.cell 1; have f_worst_1 := H_worst.free 1
            simp only [List.set_cons_zero, List.set_cons_succ, List.getElem?_cons_zero, List.getElem?_cons_succ] at c_worst_0 c_worst_1
            have c_x_0 := H_x.cell 0; have f_x_0 := H_x.free 0; have c_x_1 := H_x.cell 1; have f_x_1 := H_x.free 1; have c_x_2 := H_x.cell 2; have f_x_2 := H_x.free 2
            simp only [List.set_cons_zero, List.set_cons_succ, List.getElem?_cons_zero, List.getElem?_cons_succ] at c_x_0 c_x_1 c_x_2
            have c_was_0 := H_was.cell 0; have f_was_0 := H_was.free 0; have c_was_1 := H_was.cell 1; have f_was_1 := H_was.free 1
            simp only [List.set_cons_zero, List.set_cons_succ, List.getElem?_cons_zero, List.getElem?_cons_succ] at c_was_0 c_was_1
            have l_now := H_now.lt; have K_now := Lib.hid H_now; clear H_now
            have l_worst := H_worst.lt; have K_worst := Lib.hid H_worst; clear H_worst
            have l_x := H_x.lt; have K_x := Lib.hid H_x; clear H_x
            have l_was := H_was.lt; have K_was := Lib.hid H_was; clear H_was
            have KB := Lib.hid HB; clear HB
            go_wp2_with fail
            refine (LL.out ⟨_, _⟩ ⟨_, _⟩ _).mono ?_
            rintro e3 u3 ⟨rfl, hb⟩
            have H_now : Whole u3 (u1.heap.size) 23 _ := Whole.below ((K_now.out.set 0 _).set 1 _) hb (by first | omega | (simp; done) | (simp; omega) | (simp at *; omega))
            have H_worst : Whole u3 (u1.heap.size + 1) 23 _ := Whole.below ((K_worst.out.far (p := ⟨u1.heap.size, 0, none⟩) (by first | omega | (simp; done) | (simp; omega) | (simp at *; omega)) _).far (p := ⟨u1.heap.size, 1, none⟩) (by first | omega | (simp; done) | (simp; omega) | (simp at *; omega)) _) hb (by first | omega | (simp; done) | (simp; omega) | (simp at *; omega))
            have H_x : Whole u3 (wr.heap.size) 39 _ := Whole.below ((K_x.out.far (p := ⟨u1.heap.size, 0, none⟩) (by first | omega | (simp; done) | (simp; omega) | (simp at *; omega)) _).far (p := ⟨u1.heap.size, 1, none⟩) (by first | omega | (simp; done) | (simp; omega) | (simp at *; omega)) _) hb (by first | omega | (simp; done) | (simp; omega) | (simp at *; omega))
            have H_was : Whole u3 (wr.heap.size + 1) 23 _ := Whole.below ((K_was.out.far (p := ⟨u1.heap.size, 0, none⟩) (by first | omega | (simp; done) | (simp; omega) | (simp at *; omega)) _).far (p := ⟨u1.heap.size, 1, none⟩) (by first | omega | (simp; done) | (simp; omega) | (simp at *; omega)) _) hb (by first | omega | (simp; done) | (simp; omega) | (simp at *; omega))
            have HB := ((KB.out.setCell (p := ⟨u1.heap.size, 0, none⟩) (by first | omega | (simp; done) | (simp; omega) | (simp at *; omega)) _).setCell (p := ⟨u1.heap.size, 1, none⟩) (by first | omega | (simp; done) | (simp; omega) | (simp at *; omega)) _).trans (hb.mono (by first | omega | (simp; done) | (simp; omega) | (simp at *; omega)))
            clear c_now_0 c_now_1 f_now_0 f_now_1 c_worst_0 c_worst_1 f_worst_0 f_worst_1 c_x_0 c_x_1 c_x_2 f_x_0 f_x_1 f_x_2 c_was_0 c_was_1 f_was_0 f_was_1 l_now l_worst l_x l_was
            clear hb KB K_now K_worst K_x K_was
            have z_u3 := HB.size
            have c_now_0 := H_now.cell 0; have f_now_0 := H_now.free 0; have c_now_1 := H_now.cell 1; have f_now_1 := H_now.free 1
            simp only [List.set_cons_zero, List.set_cons_succ, List.getElem?_cons_zero, List.getElem?_cons_succ] at c_now_0 c_now_1
            have c_worst_0 := H_worst.cell 0; have f_worst_0 := H_worst.free 0; have c_worst_1 := H_worst.cell 1; have f_worst_1 := H_worst.free 1
            simp only [List.set_cons_zero, List.set_cons_succ, List.getElem?_cons_zero, List.getElem?_cons_succ] at c_worst_0 c_worst_1
            have c_x_0 := H_x.cell 0; have f_x_0 := H_x.free 0; have c_x_1 := H_x.cell 1; have f_x_1 := H_x.free 1; have c_x_2 := H_x.cell 2; have f_x_2 := H_x.free 2
            simp only [List.set_cons_zero, List.set_cons_succ, List.getElem?_cons_zero, List.getElem?_cons_succ] at c_x_0 c_x_1 c_x_2
            have c_was_0 := H_was.cell 0; have f_was_0 := H_was.free 0; have c_was_1 := H_was.cell 1; have f_was_1 := H_was.free 1
            simp only [List.set_cons_zero, List.set_cons_succ, List.getElem?_cons_zero, List.getElem?_cons_succ] at c_was_0 c_was_1
            have l_now := H_now.lt; have K_now := Lib.hid H_now; clear H_now
            have l_worst := H_worst.lt; have K_worst := Lib.hid H_worst; clear H_worst
            have l_x := H_x.lt; have K_x := Lib.hid H_x; clear H_x
            have l_was := H_was.lt; have K_was := Lib.hid H_was; clear H_was
            have KB := Lib.hid HB; clear HB
            go_wp2_with fail
            refine (LL.out ⟨_, _⟩ ⟨_, _⟩ _).mono ?_
            rintro e4 u4 ⟨rfl, hb⟩
            have H_now : Whole u4 (u1.heap.size) 23 _ := Whole.below K_now.out hb (by first | omega | (simp; done) | (simp; omega) | (simp at *; omega))
            have H_worst : Whole u4 (u1.heap.size + 1) 23 _ := Whole.below K_worst.out hb (by first | omega | (simp; done) | (simp; omega) | (simp at *; omega))
            have H_x : Whole u4 (wr.heap.size) 39 _ := Whole.below K_x.out hb (by first | omega | (simp; done) | (simp; omega) | (simp at *; omega))
            have H_was : Whole u4 (wr.heap.size + 1) 23 _ := Whole.below K_was.out hb (by first | omega | (simp; done) | (simp; omega) | (simp at *; omega))
            have HB := KB.out.trans (hb.mono (by first | omega | (simp; done) | (simp; omega) | (simp at *; omega)))
            clear c_now_0 c_now_1 f_now_0 f_now_1 c_worst_0 c_worst_1 f_worst_0 f_worst_1 c_x_0 c_x_1 c_x_2 f_x_0 f_x_1 f_x_2 c_was_0 c_was_1 f_was_0 f_was_1 l_now l_worst l_x l_was
            clear hb KB K_now K_worst K_x K_was
            have z_u4 := HB.size
            have c_now_0 := H_now.cell 0; have f_now_0 := H_now.free 0; have c_now_1 := H_now.cell 1; have f_now_1 := H_now.free 1
            simp only [List.set_cons_zero, List.set_cons_succ, List.getElem?_cons_zero, List.getElem?_cons_succ] at c_now_0 c_now_1
            have c_worst_0 := H_worst.cell 0; have f_worst_0 := H_worst.free 0; have c_worst_1 := H_worst.cell 1; have f_worst_1 := H_worst.free 1
            simp only [List.set_cons_zero, List.set_cons_succ, List.getElem?_cons_zero, List.getElem?_cons_succ] at c_worst_0 c_worst_1
            have c_x_0 := H_x.cell 0; have f_x_0 := H_x.free 0; have c_x_1 := H_x.cell 1; have f_x_1 := H_x.free 1; have c_x_2 := H_x.cell 2; have f_x_2 := H_x.free 2
            simp only [List.set_cons_zero, List.set_cons_succ, List.getElem?_cons_zero, List.getElem?_cons_succ] at c_x_0 c_x_1 c_x_2
            have c_was_0 := H_was.cell 0; have f_was_0 := H_was.free 0; have c_was_1 := H_was.cell 1; have f_was_1 := H_was.free 1
            simp only [List.set_cons_zero, List.set_cons_succ, List.getElem?_cons_zero, List.getElem?_cons_succ] at c_was_0 c_was_1
            have l_now := H_now.lt; have K_now := Lib.hid H_now; clear H_now
            have l_worst := H_worst.lt; have K_worst := Lib.hid H_worst; clear H_worst
            have l_x := H_x.lt; have K_x := Lib.hid H_x; clear H_x
            have l_was := H_was.lt; have K_was := Lib.hid H_was; clear H_was
            have KB := Lib.hid HB; clear HB
            go_wp2_with fail
            go_roundw
            case rel => exact ⟨k + 1, ⟨br, bp⟩, ⟨wor, wop⟩, by omega, by go_num, K_now.out, K_worst.out, HI2.out, KB.out⟩
            case measure => simp [intOf]; omega
          · have CA := accept_any ⟨nr, np⟩ ⟨br, bp⟩ s i
            have hww : (whereZ s i).2 ≠ 2 := by
              rcases where_cases s i with ⟨hb, _⟩ | ⟨_, _, h⟩ | ⟨_, _, _, h⟩ | ⟨_, _, _, h⟩
              · have : badW s i = false := badW_false.2 ⟨by omega, by omega, by omega, by omega⟩
                rw [this] at hb; cases hb
              all_goals rw [h]; decide
            rw [accept_ok_is hww hp] at CA
            have hd := done_ne (whereZ s i).1
            clear hww
            generalize doneZ (whereZ s i).1 = x at *
            obtain ⟨hd1, hd0⟩ := hd
            simp only [Ba.cells, if_true, if_false, Bool.false_eq_true] at CA
            have CA := Lib.hid CA
            clear hp
            have z_wr := HB.size
            have c_now_0 := H_now.cell 0; have f_now_0 := H_now.free 0; have c_now_1 := H_now.cell 1; have f_now_1 := H_now.free 1
            simp only [List.set_cons_zero, List.set_cons_succ, List.getElem?_cons_zero, List.getElem?_cons_succ] at c_now_0 c_now_1
            have c_worst_0 := H_worst.cell 0; have f_worst_0 := H_worst.free 0; have c_worst_1 := H_worst.cell 1; have f_worst_1 := H_worst.free 1
            simp only [List.set_cons_zero, List.set_cons_succ, List.getElem?_cons_zero, List.getElem?_cons_succ] at c_worst_0 c_worst_1
            have l_now := H_now.lt; have K_now := Lib.hid H_now; clear H_now
            have l_worst := H_worst.lt; have K_worst := Lib.hid H_worst; clear H_worst
            have KB := Lib.hid HB; clear HB
            go_wp2_with fail
            refine (CA.out _ (HT.out.below ((KB.out.alloc (by first | omega | (simp; done) | (simp; omega) | (simp at *; omega)) _).alloc (by first | omega | (simp; done) | (simp; omega) | (simp at *; omega)) _))).mono ?_
            rintro e2 u2 ⟨rfl, hb⟩
            have H_now : Whole u2 (u1.heap.size) 23 _ := Whole.below ((K_now.out.alloc _).alloc _) hb (by first | omega | (simp; done) | (simp; omega) | (simp at *; omega))
            have H_worst : Whole u2 (u1.heap.size + 1) 23 _ := Whole.below ((K_worst.out.alloc _).alloc _) hb (by first | omega | (simp; done) | (simp; omega) | (simp at *; omega))
            have H_x : Whole u2 (wr.heap.size) 39 _ := Whole.below ((Whole.new _ 39 _).alloc _) hb (by first | omega | (simp; done) | (simp; omega) | (simp at *; omega))
            have H_was : Whole u2 (wr.heap.size + 1) 23 _ := Whole.below (wh_at wr 1 _ 23 _ (by simp)) hb (by first | omega | (simp; done) | (simp; omega) | (simp at *; omega))
            have HB := ((KB.out.alloc (by first | omega | (simp; done) | (simp; omega) | (simp at *; omega)) _).alloc (by first | omega | (simp; done) | (simp; omega) | (simp at *; omega)) _).trans (hb.mono (by first | omega | (simp; done) | (simp; omega) | (simp at *; omega)))
            clear c_now_0 c_now_1 f_now_0 f_now_1 c_worst_0 c_worst_1 f_worst_0 f_worst_1
            clear hb KB K_now K_worst
            have z_u2 := HB.size
            have c_now_0 := H_now.cell 0; have f_now_0 := H_now.free 0; have c_now_1 := H_now.cell 1; have f_now_1 := H_now.free 1
            simp only [List.set_cons_zero, List.set_cons_succ, List.getElem?_cons_zero, List.getElem?_cons_succ] at c_now_0 c_now_1
            have c_worst_0 := H_worst.cell 0; have f_worst_0 := H_worst.free 0; have c_worst_1 := H_worst.cell 1; have f_worst_1 := H_worst.free 1
            simp only [List.set_cons_zero, List.set_cons_succ, List.getElem?_cons_zero, List.getElem?_cons_succ] at c_worst_0 c_worst_1
            have c_x_0 := H_x.cell 0; have f_x_0 := H_x.free 0; have c_x_1 := H_x.cell 1; have f_x_1 := H_x.free 1; have c_x_2 := H_x.cell 2; have f_x_2 := H_x.free 2
            simp only [List.set_cons_zero, List.set_cons_succ, List.getElem?_cons_zero, List.getElem?_cons_succ] at c_x_0 c_x_1 c_x_2
            have c_was_0 := H_was.cell 0; have f_was_0 := H_was.free 0; have c_was_1 := H_was.cell 1; have f_was_1 := H_was.free 1
            simp only [List.set_cons_zero, List.set_cons_succ, List.getElem?_cons_zero, List.getElem?_cons_succ] at c_was_0 c_was_1
            have l_now := H_now.lt; have K_now := Lib.hid H_now; clear H_now
            have l_worst := H_worst.lt; have K_worst := Lib.hid H_worst; clear H_worst
            have l_x := H_x.lt; have K_x := Lib.hid H_x; clear H_x
            have l_was := H_was.lt; have K_was := Lib.hid H_was; clear H_was
            have KB := Lib.hid HB; clear HB
            go_wp2_with fail
            refine (LL.out ⟨_, _⟩ ⟨_, _⟩ _).mono ?_
            rintro e3 u3 ⟨rfl, hb⟩
            have H_now : Whole u3 (u1.heap.size) 23 _ := Whole.below (((K_now.out.set 0 _).set 1 _).alloc _) hb (by first | omega | (simp; done) | (simp; omega) | (simp at *; omega))
            have H_worst : Whole u3 (u1.heap.size + 1) 23 _ := Whole.below (((K_worst.out.far (p := ⟨u1.heap.size, 0, none⟩) (by first | omega | (simp; done) | (simp; omega) | (simp at *; omega)) _).far (p := ⟨u1.heap.size, 1, none⟩) (by first | omega | (simp; done) | (simp; omega) | (simp at *; omega)) _).alloc _) hb (by first | omega | (simp; done) | (simp; omega) | (simp at *; omega))
            have H_x : Whole u3 (wr.heap.size) 39 _ := Whole.below (((K_x.out.far (p := ⟨u1.heap.size, 0, none⟩) (by first | omega | (simp; done) | (simp; omega) | (simp at *; omega)) _).far (p := ⟨u1.heap.size, 1, none⟩) (by first | omega | (simp; done) | (simp; omega) | (simp at *; omega)) _).alloc _) hb (by first | omega | (simp; done) | (simp; omega) | (simp at *; omega))
            have H_was : Whole u3 (wr.heap.size + 1) 23 _ := Whole.below (((K_was.out.far (p := ⟨u1.heap.size, 0, none⟩) (by first | omega | (simp; done) | (simp; omega) | (simp at *; omega)) _).far (p := ⟨u1.heap.size, 1, none⟩) (by first | omega | (simp; done) | (simp; omega) | (simp at *; omega)) _).alloc _) hb (by first | omega | (simp; done) | (simp; omega) | (simp at *; omega))
            have H_then : Whole u3 (u2.heap.size) 23 _ := Whole.below (wh_at0 u2 _ 23 _ (by simp [size_set])) hb (by first | omega | (simp; done) | (simp; omega) | (simp at *; omega))
            have HB := (((KB.out.setCell (p := ⟨u1.heap.size, 0, none⟩) (by first | omega | (simp; done) | (simp; omega) | (simp at *; omega)) _).setCell (p := ⟨u1.heap.size, 1, none⟩) (by first | omega | (simp; done) | (simp; omega) | (simp at *; omega)) _).alloc (by first | omega | (simp; done) | (simp; omega) | (simp at *; omega)) _).trans (hb.mono (by first | omega | (simp; done) | (simp; omega) | (simp at *; omega)))
            clear c_now_0 c_now_1 f_now_0 f_now_1 c_worst_0 c_worst_1 f_worst_0 f_worst_1 c_x_0 c_x_1 c_x_2 f_x_0 f_x_1 f_x_2 c_was_0 c_was_1 f_was_0 f_was_1
            clear hb KB K_now K_worst K_x K_was
            have z_u3 := HB.size
            have c_now_0 := H_now.cell 0; have f_now_0 := H_now.free 0; have c_now_1 := H_now.cell 1; have f_now_1 := H_now.free 1
            simp only [List.set_cons_zero, List.set_cons_succ, List.getElem?_cons_zero, List.getElem?_cons_succ] at c_now_0 c_now_1
            have c_worst_0 := H_worst.cell 0; have f_worst_0 := H_worst.free 0; have c_worst_1 := H_worst.cell 1; have f_worst_1 := H_worst.free 1
            simp only [List.set_cons_zero, List.set_cons_succ, List.getElem?_cons_zero, List.getElem?_cons_succ] at c_worst_0 c_worst_1
            have c_x_0 := H_x.cell 0; have f_x_0 := H_x.free 0; have c_x_1 := H_x.cell 1; have f_x_1 := H_x.free 1; have c_x_2 := H_x.cell 2; have f_x_2 := H_x.free 2
            simp only [List.set_cons_zero, List.set_cons_succ, List.getElem?_cons_zero, List.getElem?_cons_succ] at c_x_0 c_x_1 c_x_2
            have c_was_0 := H_was.cell 0; have f_was_0 := H_was.free 0; have c_was_1 := H_was.cell 1; have f_was_1 := H_was.free 1
            simp only [List.set_cons_zero, List.set_cons_succ, List.getElem?_cons_zero, List.getElem?_cons_succ] at c_was_0 c_was_1
            have c_then_0 := H_then.cell 0; have f_then_0 := H_then.free 0; have c_then_1 := H_then.cell 1; have f_then_1 := H_then.free 1
            simp only [List.set_cons_zero, List.set_cons_succ, List.getElem?_cons_zero, List.getElem?_cons_succ] at c_then_0 c_then_1
            have l_now := H_now.lt; have K_now := Lib.hid H_now; clear H_now
            have l_worst := H_worst.lt; have K_worst := Lib.hid H_worst; clear H_worst
            have l_x := H_x.lt; have K_x := Lib.hid H_x; clear H_x
            have l_was := H_was.lt; have K_was := Lib.hid H_was; clear H_was
            have l_then := H_then.lt; have K_then := Lib.hid H_then; clear H_then
            have KB := Lib.hid HB; clear HB
            go_wp2_with fail
            refine (LL.out ⟨_, _⟩ ⟨_, _⟩ _).mono ?_
            rintro e4 u4 ⟨rfl, hb⟩
            have H_now : Whole u4 (u1.heap.size) 23 _ := Whole.below K_now.out hb (by first | omega | (simp; done) | (simp; omega) | (simp at *; omega))
            have H_worst : Whole u4 (u1.heap.size + 1) 23 _ := Whole.below K_worst.out hb (by first | omega | (simp; done) | (simp; omega) | (simp at *; omega))
            have H_x : Whole u4 (wr.heap.size) 39 _ := Whole.below K_x.out hb (by first | omega | (simp; done) | (simp; omega) | (simp at *; omega))
            have H_was : Whole u4 (wr.heap.size + 1) 23 _ := Whole.below K_was.out hb (by first | omega | (simp; done) | (simp; omega) | (simp at *; omega))
            have H_then : Whole u4 (u2.heap.size) 23 _ := Whole.below K_then.out hb (by first | omega | (simp; done) | (simp; omega) | (simp at *; omega))
            have HB := KB.out.trans (hb.mono (by first | omega | (simp; done) | (simp; omega) | (simp at *; omega)))
            clear c_now_0 c_now_1 f_now_0 f_now_1 c_worst_0 c_worst_1 f_worst_0 f_worst_1 c_x_0 c_x_1 c_x_2 f_x_0 f_x_1 f_x_2 c_was_0 c_was_1 f_was_0 f_was_1 c_then_0 c_then_1 f_then_0 f_then_1 l_now l_worst l_x l_was l_then
            clear hb KB K_now K_worst K_x K_was K_then
            have z_u4 := HB.size
            have c_now_0 := H_now.cell 0; have f_now_0 := H_now.free 0; have c_now_1 := H_now.cell 1; have f_now_1 := H_now.free 1
            simp only [List.set_cons_zero, List.set_cons_succ, List.getElem?_cons_zero, List.getElem?_cons_succ] at c_now_0 c_now_1
            have c_worst_0 := H_worst.cell 0; have f_worst_0 := H_worst.free 0; have c_worst_1 := H_worst.cell 1; have f_worst_1 := H_worst.free 1
            simp only [List.set_cons_zero, List.set_cons_succ, List.getElem?_cons_zero, List.getElem?_cons_succ] at c_worst_0 c_worst_1
            have c_x_0 := H_x.cell 0; have f_x_0 := H_x.free 0; have c_x_1 := H_x.cell 1; have f_x_1 := H_x.free 1; have c_x_2 := H_x.cell 2; have f_x_2 := H_x.free 2
            simp only [List.set_cons_zero, List.set_cons_succ, List.getElem?_cons_zero, List.getElem?_cons_succ] at c_x_0 c_x_1 c_x_2
            have c_was_0 := H_was.cell 0; have f_was_0 := H_was.free 0; have c_was_1 := H_was.cell 1; have f_was_1 := H_was.free 1
            simp only [List.set_cons_zero, List.set_cons_succ, List.getElem?_cons_zero, List.getElem?_cons_succ] at c_was_0 c_was_1
            have c_then_0 := H_then.cell 0; have f_then_0 := H_then.free 0; have c_then_1 := H_then.cell 1; have f_then_1 := H_then.free 1
            simp only [List.set_cons_zero, List.set_cons_succ, List.getElem?_cons_zero, List.getElem?_cons_succ] at c_then_0 c_then_1
            have l_now := H_now.lt; have K_now := Lib.hid H_now; clear H_now
            have l_worst := H_worst.lt; have K_worst := Lib.hid H_worst; clear H_worst
            have l_x := H_x.lt; have K_x := Lib.hid H_x; clear H_x
            have l_was := H_was.lt; have K_was := Lib.hid H_was; clear H_was
            have l_then := H_then.lt; have K_then := Lib.hid H_then; clear H_then
            have KB := Lib.hid HB; clear HB
            go_wp2_with fail
            go_roundw
            case rel => exact ⟨k + 1, ⟨br, bp⟩, ⟨wor, wop⟩, by omega, by go_num, K_now.out, K_worst.out, HI2.out, KB.out⟩
            case measure => simp [intOf]; omega
    · have e : k = l.length := by omega
      subst e
      have HB' := Lib.hid HB; clear HB H_now H_worst
      go_wp2_with fail
      go_ret
      exact ⟨rfl, HB'.out⟩

end Vo
end Go.Proofs.YtojkccdmnhppnaaDoor
