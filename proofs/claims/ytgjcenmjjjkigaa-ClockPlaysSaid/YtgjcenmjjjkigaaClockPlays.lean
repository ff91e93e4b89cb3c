/- The walk of ClockPlays. -/
import Derived.Test.YtgjcenmjjjkigaaClockAwake
import Derived.Test.YtgjcenmjjjkigaaWords
namespace Go.Proofs.Ytgjcenmjjjkigaa
open Go.RowKit

namespace Ck

/-- The program's clock and the document's stand alike. -/
def Alike (P : Nat) (c : St) (s l : Nat) : Prop := c.at_ = s ∧ c.most = P ∧ c.beat = l % 3 ∧ s < P
theorem alike_hear {P : Nat} {c : St} {s l : Nat} (h : Alike P c s l) : Alike P (hear c) 0 l := ⟨rfl, h.2.1, h.2.2.1, by have := h.2.2.2; omega⟩
theorem alike_leads {P : Nat} {c : St} {s l : Nat} (h : Alike P c s l) : Alike P (tick c true) 0 (l + 1) ∧ stands c true = false ∧ beats c true = decide ((l + 1) % 3 = 0) := by
  obtain ⟨rfl, rfl, h3, h4⟩ := h
  refine ⟨⟨rfl, rfl, ?_, by omega⟩, rfl, ?_⟩
  · show (if c.beat + 1 < 3 then c.beat + 1 else 0) = (l + 1) % 3
    split <;> omega
  · show (true && decide (3 ≤ c.beat + 1)) = _
    rw [Bool.true_and]
    apply decide_eq_decide.2
    omega
theorem alike_waits {r : Int} {c : St} {s l : Nat} (h : Alike (patN r) c s l) : Alike (patN r) (tick c false) (rwait r s) 0 ∧ stands c false = decide (s + 1 = patN r) ∧ beats c false = false := by
  obtain ⟨rfl, h2, h3, h4⟩ := h
  refine ⟨⟨?_, h2, rfl, ?_⟩, ?_, rfl⟩
  · show (if c.at_ + 1 < c.most then c.at_ + 1 else 0) = rwait r c.at_
    unfold rwait
    rw [h2]
    split <;> split <;> omega
  · unfold rwait
    split <;> omega
  · show (true && decide (c.most ≤ c.at_ + 1)) = _
    rw [Bool.true_and, h2]
    apply decide_eq_decide.2
    omega

set_option maxHeartbeats 4000000 in
theorem plays_any (r : Int) (ws : List Nat) (hws : ∀ x ∈ ws, x < 256) (v : Value) (w : World) (hv : Row w w.heap.size v ws.length (ws.map fun x : Nat => Value.int .u8 x)) :
    Calls Try.prog 3 #[.int .i64 r, v] w fun e w' => e = .returned (.bool true) ∧ Below w.heap.size w w' := by
  obtain ⟨A, c, rfl, hn, hc⟩ := hv.slice
  unfold maxLen at hc
  by_cases hl : 2000 < ws.length
  · go_enter Try.func3, Try.ntmps3
    go_wp2_with fail
    go_ret
    exact ⟨rfl, Below.refl _ _⟩
  have HV := Lib.hid hv; clear hv
  by_cases hr : 0 ≤ r ∧ r < 7
  · have hp := patN_le r
    have hp0 : 0 < patN r := by have := patN_pos.2 hr; omega
    go_enter Try.func3, Try.ntmps3
    go_wp2_with fail
    refine (new_good _ hr _).mono ?_
    rintro e w1 ⟨rfl, rfl⟩
    have hw : IsClock (w.alloc (.cells (new r).cells.toArray 44)) w.heap.size (new r) := Whole.new _ _ _
    have hb1 : Below w.heap.size w (w.alloc (.cells (new r).cells.toArray 44)) := (Below.refl _ _).alloc (Nat.le_refl _) _
    have hg1' : w.heap.size < (w.alloc (.cells (new r).cells.toArray 44)).heap.size := hw.lt
    generalize w.alloc (.cells (new r).cells.toArray 44) = w1 at *
    have HW := Lib.hid hw; clear hw
    go_wp2_with fail
    refine (rnew_any _ _).mono ?_
    rintro e w2 ⟨rfl, rfl⟩
    have hm : IsRef (w1.alloc (.cells #[.int .i64 r, .int .i64 0, .int .i64 0] 35)) w1.heap.size r 0 0 := Whole.new _ _ _
    have hw2 := HW.out.alloc (.cells #[.int .i64 r, .int .i64 0, .int .i64 0] 35)
    have hb2 : Below w.heap.size w (w1.alloc (.cells #[.int .i64 r, .int .i64 0, .int .i64 0] 35)) := hb1.alloc hb1.size _
    generalize w1.alloc (.cells #[.int .i64 r, .int .i64 0, .int .i64 0] 35) = w2 at *
    generalize hgg : w1.heap.size = g at *
    clear hgg hb1
    have HM := Lib.hid hm; clear hm HW
    have HW := Lib.hid hw2; clear hw2
    have hne : w.heap.size ≠ g := by omega
    have hne' : g ≠ w.heap.size := by omega
    have HG := Lib.hid hne; clear hne
    have HG' := Lib.hid hne'; clear hne'
    go_wp2_with (first
      | (go_at_call 10; refine (pat_any _ _).mono ?_; rintro e w' ⟨rfl, rfl⟩)
      | (go_at_call 11; refine (rpat_any _ _).mono ?_; rintro e w' ⟨rfl, rfl⟩))
    go_loopw [9] (fun i wr => ∃ (k : Nat) (d : St) (s l : Nat), k ≤ ws.length ∧ i = .int .i64 k ∧ IsClock wr w.heap.size d ∧ IsRef wr g r s l ∧ d.ok ∧ Alike (patN r) d s l ∧ l ≤ k ∧ Below w.heap.size w wr) (fun i _ => ws.length - (intOf i).toNat)
    case atStart => exact ⟨0, new r, 0, 0, Nat.zero_le _, rfl, HW.out, HM.out, new_ok hr, ⟨rfl, rfl, rfl, hp0⟩, Nat.le_refl _, hb2⟩
    case round =>
      obtain ⟨k, d, s, l, hk, rfl, hwr, hmr, hok, hal, hlk, hbr⟩ := hrel
      have Wr := Lib.hid hwr; clear hwr
      have Mr := Lib.hid hmr; clear hmr
      have Ok := Lib.hid hok; clear hok
      have Al := Lib.hid hal; clear hal
      by_cases hlt : k < ws.length
      · obtain ⟨ba, off, rfl, hba, hx⟩ := HV.out.at_ (j := k) (by simpa using hlt)
        have HX := Lib.hid (hx k (.int .u8 (ws[k] : Nat)) (by simp [List.getElem?_eq_getElem hlt]))
        have hcell := (hbr.cell (p := ⟨ba, off + k, none⟩) hba).trans HX.out
        have h256 := hws ws[k] (List.getElem_mem hlt)
        clear hx
        have hs34 : s < 34 := by have := Al.out.2.2.2; omega
        have hm3 : ws[k] % 3 = 2 ∨ ws[k] % 3 = 1 ∨ ws[k] % 3 = 0 := by omega
        rcases hm3 with h3 | h3 | h3
        · have b2 : ((ws[k] : Int) % 3 == 2) = true := by simp; omega
          have H3 := Lib.hid h3; clear h3
          have HAl := Lib.hid (alike_hear Al.out)
          go_wp2_with fail
          refine (hear_any _ d Ok.out _ Wr.out).mono ?_
          rintro e wa ⟨rfl, hwa, hoa⟩
          have Wa := Lib.hid hwa; clear hwa
          have Ma := Lib.hid (hoa.whole Mr.out HG'.out)
          have hba' := Only.below hbr hoa hbr.size (Nat.le_refl _)
          clear hoa
          go_wp2_with fail
          refine (rhear_any g r s l _ Ma.out).mono ?_
          rintro e wb ⟨rfl, hmb, hob⟩
          have Mb := Lib.hid hmb; clear hmb
          have Wb := Lib.hid (hob.whole Wa.out HG.out)
          have hbb := Only.below hba' hob hba'.size (by omega)
          clear hob
          have Sil := Lib.hid (@silent_any w.heap.size (hear d) (hear_ok Ok.out))
          have hcm := (Mb.out.cell 1)
          simp only [List.getElem?_cons_zero, List.getElem?_cons_succ] at hcm
          have hat : ((hear d).at_ : Int) = 0 := rfl
          rw [hat] at Sil
          clear hat
          go_wp2_with fail
          go_quiet ((go_at_call 16; exact Calls.quiet_of_same ((Sil.out _ (Wb.out.drewN _)).mono fun _ _ h => ⟨h.1, h.2.symm⟩)))
          go_wp2_with fail
          refine ⟨⟨k + 1, hear d, 0, l, by omega, by go_num, Wb.out.drewN _, Mb.out.drewN _, hear_ok Ok.out, HAl.out, by omega, below_drewN' hbb _⟩, by simp [intOf]; omega⟩
        · have b2 : ((ws[k] : Int) % 3 == 2) = false := by simp; omega
          have b1 : ((ws[k] : Int) % 3 == 1) = true := by simp; omega
          have H3 := Lib.hid h3; clear h3
          obtain ⟨a1, a2, a3⟩ := alike_leads Al.out
          have HAl := Lib.hid a1; clear a1
          have T := @tick_is w.heap.size d _ Ok.out true false _ rfl a2 a3 _ Wr.out
          have R := @rtick_leads g r s l (by omega)
          clear a2 a3
          generalize decide ((l + 1) % 3 = 0) = x at *
          have HT := Lib.hid T; clear T
          have HR := Lib.hid R; clear R
          go_wp2_with fail
          refine HT.out.mono ?_
          rintro e wa ⟨rfl, hwa, hoa⟩
          have Wa := Lib.hid hwa; clear hwa
          have Ma := Lib.hid (hoa.whole Mr.out HG'.out)
          have hba' := Only.below hbr hoa hbr.size (Nat.le_refl _)
          have hcell2 := (hba'.cell (p := ⟨ba, off + k, none⟩) hba).trans HX.out
          clear hoa HT
          go_wp2_with fail
          refine (HR.out _ Ma.out).mono ?_
          rintro e wb ⟨rfl, hmb, hob⟩
          have Mb := Lib.hid hmb; clear hmb
          have Wb := Lib.hid (hob.whole Wa.out HG.out)
          have hbb := Only.below hba' hob hba'.size (by omega)
          clear hob HR
          have Sil := Lib.hid (@silent_any w.heap.size (tick d true) (tick_ok Ok.out true))
          have hcm := (Mb.out.cell 1)
          simp only [List.getElem?_cons_zero, List.getElem?_cons_succ] at hcm
          have hat : ((tick d true).at_ : Int) = 0 := rfl
          rw [hat] at Sil
          clear hat
          go_wp2_with fail
          go_quiet ((go_at_call 16; exact Calls.quiet_of_same ((Sil.out _ (Wb.out.drewN _)).mono fun _ _ h => ⟨h.1, h.2.symm⟩)))
          go_wp2_with fail
          refine ⟨⟨k + 1, tick d true, 0, l + 1, by omega, by go_num, Wb.out.drewN _, Mb.out.drewN _, tick_ok Ok.out true, HAl.out, by omega, below_drewN' hbb _⟩, by simp [intOf]; omega⟩
        · have b2 : ((ws[k] : Int) % 3 == 2) = false := by simp; omega
          have b1 : ((ws[k] : Int) % 3 == 1) = false := by simp; omega
          have H3 := Lib.hid h3; clear h3
          obtain ⟨a1, a2, a3⟩ := alike_waits Al.out
          have HAl := Lib.hid a1; clear a1
          have T := @tick_is w.heap.size d _ Ok.out false _ false rfl a2 a3 _ Wr.out
          have R := @rtick_waits g r s l (by omega)
          clear a2 a3
          generalize decide (s + 1 = patN r) = x at *
          generalize hs' : rwait r s = s' at *
          have HS' := Lib.hid hs'; clear hs'
          have HT := Lib.hid T; clear T
          have HR := Lib.hid R; clear R
          go_wp2_with fail
          refine HT.out.mono ?_
          rintro e wa ⟨rfl, hwa, hoa⟩
          have Wa := Lib.hid hwa; clear hwa
          have Ma := Lib.hid (hoa.whole Mr.out HG'.out)
          have hba' := Only.below hbr hoa hbr.size (Nat.le_refl _)
          have hcell2 := (hba'.cell (p := ⟨ba, off + k, none⟩) hba).trans HX.out
          clear hoa HT
          go_wp2_with fail
          refine (HR.out _ Ma.out).mono ?_
          rintro e wb ⟨rfl, hmb, hob⟩
          have Mb := Lib.hid hmb; clear hmb
          have Wb := Lib.hid (hob.whole Wa.out HG.out)
          have hbb := Only.below hba' hob hba'.size (by omega)
          clear hob HR
          have Sil := Lib.hid (@silent_any w.heap.size (tick d false) (tick_ok Ok.out false))
          have hcm := (Mb.out.cell 1)
          simp only [List.getElem?_cons_zero, List.getElem?_cons_succ] at hcm
          have hat : ((tick d false).at_ : Int) = s' := by rw [HAl.out.1]
          rw [hat] at Sil
          clear hat
          go_wp2_with fail
          go_quiet ((go_at_call 16; exact Calls.quiet_of_same ((Sil.out _ (Wb.out.drewN _)).mono fun _ _ h => ⟨h.1, h.2.symm⟩)))
          go_wp2_with fail
          refine ⟨⟨k + 1, tick d false, s', 0, by omega, by go_num, Wb.out.drewN _, Mb.out.drewN _, tick_ok Ok.out false, HAl.out, by omega, below_drewN' hbb _⟩, by simp [intOf]; omega⟩
      · have e : k = ws.length := by omega
        subst e
        go_wp2_with fail
        go_ret
        exact ⟨rfl, hbr⟩
  · have h0 : patN r = 0 := by unfold patN; rw [if_neg hr]
    go_enter Try.func3, Try.ntmps3
    go_wp2_with (first
      | (go_at_call 8; refine (new_bad _ hr _).mono ?_; rintro e w' ⟨rfl, rfl⟩)
      | (go_at_call 9; refine (rnew_any _ _).mono ?_; rintro e w' ⟨rfl, rfl⟩)
      | (go_at_call 10; refine (pat_any _ _).mono ?_; rintro e w' ⟨rfl, rfl⟩)
      | (go_at_call 11; refine (rpat_any _ _).mono ?_; rintro e w' ⟨rfl, rfl⟩))
    go_ret
    exact ⟨rfl, (Below.refl _ _).alloc (Nat.le_refl _) _⟩

end Ck
end Go.Proofs.Ytgjcenmjjjkigaa
