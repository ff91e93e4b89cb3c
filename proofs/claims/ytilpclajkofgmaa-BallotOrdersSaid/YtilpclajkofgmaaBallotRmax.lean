/- The greatest of ballots: the document's. -/
import Derived.Test.YtilpclajkofgmaaBallotMax
set_option linter.unusedSimpArgs false
set_option linter.unusedVariables false
namespace Go.Proofs.Ytilpclajkofgmaa
open Go.RowKit

namespace Bl

/-- Four cells that were there before are there behind a call. -/
theorem held4 {w0 W u : World} {p q r s : Addr} {a b c d : Value} (h : (W.cell? p = some a ∧ W.cell? q = some b ∧ W.cell? r = some c ∧ W.cell? s = some d) ∧ Hid (Below w0.heap.size w0 W)) (hb : Below W.heap.size W u)
    (hp : p.block < w0.heap.size) (hq : q.block < w0.heap.size) (hr : r.block < w0.heap.size) (hs : s.block < w0.heap.size) :
    (u.cell? p = some a ∧ u.cell? q = some b ∧ u.cell? r = some c ∧ u.cell? s = some d) ∧ Hid (Below w0.heap.size w0 u) := by
  obtain ⟨⟨h1, h2, h3, h4⟩, h5⟩ := h
  have hz := h5.out.size
  exact ⟨⟨(hb.cell (Nat.lt_of_lt_of_le hp hz)).trans h1, (hb.cell (Nat.lt_of_lt_of_le hq hz)).trans h2, (hb.cell (Nat.lt_of_lt_of_le hr hz)).trans h3, (hb.cell (Nat.lt_of_lt_of_le hs hz)).trans h4⟩, h5.out.trans (hb.mono hz)⟩


set_option maxHeartbeats 4000000 in
theorem rmax_any (l : List Ba) (v : Value) (w : World) (hr : Row w w.heap.size v l.length (l.flatMap Ba.cells)) :
    Calls Try.prog 12 #[v] w fun e w' => e = .returned (.agg (maxL l).cells.toArray) ∧ Below w.heap.size w w' := by
  obtain ⟨A, c, rfl, hn, hc⟩ := hr.slice
  have hlen := hr.bound
  have HR := Lib.hid hr; clear hr
  have LL := Lib.hid @rless_any
  have HE := Lib.hid (refO_all l)
  go_enter Try.func12, Try.ntmps12
  go_wp2_with fail
  go_loopw [4] (fun iv wr => ∃ i : Nat, i ≤ l.length ∧ iv = .int .i64 i ∧ Whole wr w.heap.size 23 [.int .i64 0, .int .i64 0] ∧ Whole wr (w.heap.size + 1) 23 (refO l i).cells ∧ Below w.heap.size w wr) (fun i _ => l.length - (intOf i).toNat)
  case atStart => exact ⟨0, Nat.zero_le _, rfl, wh0_2 _ _ _ _, wh1_2 _ _ _ _, be2 _ _ _⟩
  case round =>
    obtain ⟨i, hi, rfl, H_res, H_out, HB⟩ := hrel
    have z_w := HB.size
    by_cases hlt : i < l.length
    · have hri := HR.out
      obtain ⟨b, off, rfl, hb, hx⟩ := hri.elem cells_len (by omega) hlt
      clear hri
      have y0 := hx 0 _ rfl
      have y1 := hx 1 _ rfl
      simp only [Nat.add_zero] at y0
      rw [← Nat.add_assoc] at y1
      have Y := Lib.hid (And.intro y0 y1); clear y0 y1 hx
      have hnext := Lib.hid (refO_succ l i hlt)
      generalize hm : refO l i = m at *
      have HM := Lib.hid hm; clear hm
      have H_out : Whole wr (w.heap.size + 1) 23 [.int .i64 m.r, .int .i64 m.p] := H_out
      have hmost : isMost l l[i] = (l.take l.length).all (fun x => !lessB l[i] x) := by rw [List.take_length]; rfl
      have HMost := Lib.hid hmost; clear hmost
      generalize ha : l[i] = a at *
      have HA := Lib.hid ha; clear ha
      have K_res := Lib.hid H_res; clear H_res
      have K_out := Lib.hid H_out; clear H_out
      have KB := Lib.hid HB; clear HB
      obtain ⟨wo, rfl⟩ : ∃ wo : World, wo = wr := ⟨_, rfl⟩
      go_wp2_with fail
      go_loopw [5, 6] (fun mv kv wr => ∃ k : Nat, k ≤ l.length ∧ kv = .int .i64 k ∧ mv = .bool ((l.take k).all fun x => !lessB a x) ∧ Below wo.heap.size wo wr) (fun _ k _ => l.length - (intOf k).toNat)
      case atStart => exact ⟨0, Nat.zero_le _, rfl, rfl, Below.refl _ _⟩
      case round =>
        obtain ⟨k, hk, rfl, rfl, HK⟩ := hrel
        have z_k := HK.size
        have hbk : b < wo.heap.size := by have := KB.out.size; omega
        have hbk2 : b < wr.heap.size := by omega
        have hKB := KB.out
        have a0 := (HK.cell (p := ⟨b, off + i * 2, none⟩) hbk).trans ((hKB.cell (p := ⟨b, off + i * 2, none⟩) hb).trans Y.out.1)
        have a1 := (HK.cell (p := ⟨b, off + i * 2 + 1, none⟩) hbk).trans ((hKB.cell (p := ⟨b, off + i * 2 + 1, none⟩) hb).trans Y.out.2)
        by_cases hlk : k < l.length
        · have hri := HR.out
          obtain ⟨b', off', hA, _, hx⟩ := hri.elem cells_len (by omega) hlk
          obtain ⟨rfl, rfl⟩ : b = b' ∧ off = off' := by injection hA with hA; injection hA with e1 e2; exact ⟨e1, e2⟩
          clear hri hA
          have x0 := (HK.cell (p := ⟨b, off + (k * 2 + 0), none⟩) hbk).trans ((hKB.cell (p := ⟨b, off + (k * 2 + 0), none⟩) hb).trans (hx 0 _ rfl))
          have x1 := (HK.cell (p := ⟨b, off + (k * 2 + 1), none⟩) hbk).trans ((hKB.cell (p := ⟨b, off + (k * 2 + 1), none⟩) hb).trans (hx 1 _ rfl))
          simp only [Nat.add_zero] at x0
          rw [← Nat.add_assoc] at x1
          clear hx hKB
          have hstep : (l.take (k + 1)).all (fun x => !lessB a x) = ((l.take k).all (fun x => !lessB a x) && !lessB a l[k]) := by
            rw [List.take_succ_eq_append_getElem hlk, List.all_append]; simp
          generalize hxk : l[k] = x at *
          have hxk' := Lib.hid hxk; clear hxk
          generalize hall : (l.take k).all (fun x => !lessB a x) = q at *
          have hall' := Lib.hid hall; clear hall
          have L := LL.out a x
          cases hl : lessB a x
          all_goals
            rw [hl] at L hstep
            simp only [Bool.not_false, Bool.not_true, Bool.and_true, Bool.and_false] at hstep
            have hs := Lib.hid hstep; clear hstep hl
            have L := Lib.hid L
            have HK' := Lib.hid HK; clear HK
            go_wp2_with fail
            go_region_held3 (fun u : World => (u.cell? ⟨b, off + i * 2, none⟩ = some (.int .i64 a.r) ∧ u.cell? ⟨b, off + i * 2 + 1, none⟩ = some (.int .i64 a.p) ∧ u.cell? ⟨b, off + k * 2, none⟩ = some (.int .i64 x.r) ∧ u.cell? ⟨b, off + k * 2 + 1, none⟩ = some (.int .i64 x.p)) ∧ Hid (Below wr.heap.size wr u))
              (first | exact ⟨⟨a0, a1, x0, x1⟩, (Below.refl _ _).drew⟩ | exact held4 (by assumption) hb2 hbk2 hbk2 hbk2 hbk2)
              (first | (go_at_call 11; refine (L.out _).mono ?_; rintro e u ⟨rfl, hb2⟩))
            have hS : (fun u : World => (u.cell? ⟨b, off + i * 2, none⟩ = some (.int .i64 a.r) ∧ u.cell? ⟨b, off + i * 2 + 1, none⟩ = some (.int .i64 a.p) ∧ u.cell? ⟨b, off + k * 2, none⟩ = some (.int .i64 x.r) ∧ u.cell? ⟨b, off + k * 2 + 1, none⟩ = some (.int .i64 x.p)) ∧ Hid (Below wr.heap.size wr u)) u := by assumption
            have HK := HK'.out.trans (hS.2.out.mono z_k)
            go_wp2_with fail
            go_roundw
            case rel => exact ⟨k + 1, by omega, by go_num, by rw [hs.out], HK⟩
            case measure => simp [intOf]; omega
        · have e : k = l.length := by omega
          subst e
          rw [← HMost.out]
          have H_res := K_res.out.below HK K_res.out.lt
          have H_out := K_out.out.below HK K_out.out.lt
          have HB := hKB.trans (HK.mono hKB.size)
          cases hmo : isMost l a
          all_goals
            have hn := hnext.out
            rw [hmo] at hn
            simp only [Bool.false_eq_true, if_false, if_true] at hn
            have hn' := Lib.hid hn; clear hn hKB
            have z_wr := HB.size
            have c_res_0 := H_res.cell 0; have f_res_0 := H_res.free 0; have c_res_1 := H_res.cell 1; have f_res_1 := H_res.free 1
            simp only [List.set_cons_zero, List.set_cons_succ, List.getElem?_cons_zero, List.getElem?_cons_succ] at c_res_0 c_res_1
            have c_out_0 := H_out.cell 0; have f_out_0 := H_out.free 0; have c_out_1 := H_out.cell 1; have f_out_1 := H_out.free 1
            simp only [List.set_cons_zero, List.set_cons_succ, List.getElem?_cons_zero, List.getElem?_cons_succ] at c_out_0 c_out_1
            have l_res := H_res.lt; have K_res := Lib.hid H_res; clear H_res
            have l_out := H_out.lt; have K_out := Lib.hid H_out; clear H_out
            have KB := Lib.hid HB; clear HB
            go_wp2_with fail
          · go_roundw
            case rel => exact ⟨i + 1, by omega, by go_num, K_res.out, by rw [hn'.out]; exact K_out.out, KB.out⟩
            case measure => simp [intOf]; omega
          · go_roundw
            case rel => exact ⟨i + 1, by omega, by go_num, ((K_res.out.far (p := ⟨w.heap.size + 1, 0, none⟩) (by first | (simp; done) | (simp; omega) | (simp at *; omega)) _).far (p := ⟨w.heap.size + 1, 1, none⟩) (by first | (simp; done) | (simp; omega) | (simp at *; omega)) _), by rw [hn'.out]; exact ((K_out.out.set 0 _).set 1 _), ((KB.out.setCell (p := ⟨w.heap.size + 1, 0, none⟩) (by first | (simp; done) | (simp; omega) | (simp at *; omega)) _).setCell (p := ⟨w.heap.size + 1, 1, none⟩) (by first | (simp; done) | (simp; omega) | (simp at *; omega)) _)⟩
            case measure => simp [intOf]; omega
    · have e : i = l.length := by omega
      subst e
      rw [HE.out] at H_out
      have H_out : Whole wr (w.heap.size + 1) 23 [.int .i64 (maxL l).r, .int .i64 (maxL l).p] := H_out
      have z_wr := HB.size
      have c_res_0 := H_res.cell 0; have f_res_0 := H_res.free 0; have c_res_1 := H_res.cell 1; have f_res_1 := H_res.free 1
      simp only [List.set_cons_zero, List.set_cons_succ, List.getElem?_cons_zero, List.getElem?_cons_succ] at c_res_0 c_res_1
      have c_out_0 := H_out.cell 0; have f_out_0 := H_out.free 0; have c_out_1 := H_out.cell 1; have f_out_1 := H_out.free 1
      simp only [List.set_cons_zero, List.set_cons_succ, List.getElem?_cons_zero, List.getElem?_cons_succ] at c_out_0 c_out_1
      have l_res := H_res.lt; have K_res := Lib.hid H_res; clear H_res
      have l_out := H_out.lt; have K_out := Lib.hid H_out; clear H_out
      have KB := Lib.hid HB; clear HB
      go_wp2_with fail
      refine bodyPost_ret (v := .agg #[.int .i64 (maxL l).r, .int .i64 (maxL l).p]) (by simp [results, Try.results12, go_sem, c_res_0, c_res_1, f_res_0, f_res_1, c_out_0, c_out_1, f_out_0, f_out_1]) rfl ⟨rfl, ?_⟩
      exact ((KB.out.setCell (p := ⟨w.heap.size, 0, none⟩) (by first | (simp; done) | (simp; omega) | (simp at *; omega)) _).setCell (p := ⟨w.heap.size, 1, none⟩) (by first | (simp; done) | (simp; omega) | (simp at *; omega)) _)

end Bl
end Go.Proofs.Ytilpclajkofgmaa
