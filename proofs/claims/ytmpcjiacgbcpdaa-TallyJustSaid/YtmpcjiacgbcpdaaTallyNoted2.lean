/- What the tally's laws share: noted. -/
import Derived.Test.YtmpcjiacgbcpdaaTallyNoted
import Derived.Deep.RegionHeld3
import Derived.StillTailTactics
set_option linter.unusedSimpArgs false
set_option linter.unusedVariables false
namespace Go.Proofs.Ytmpcjiacgbcpdaa
open Go.RowKit
open Qm

namespace Ta

/-- The rows of a tally whose slots are at most 60. -/
def Ok60 (R : Rows) : Prop := Ok R ∧ ∀ x ∈ keys R, x ≤ 60
theorem ok60_nil : Ok60 [] := ⟨ok_nil, by simp [keys]⟩
theorem ok60_len {R : Rows} (h : Ok60 R) : R.length ≤ 60 := by
  have h1 := len_le (l := keys R) (m := (List.range 60).map fun k : Nat => (k : Int) + 1) h.1.1 fun x hx => by
    obtain ⟨p, hp, rfl⟩ := List.mem_map.1 hx
    have h2 := (h.1.2 p hp).1
    have h3 := h.2 _ hx
    exact List.mem_map.2 ⟨(p.1 - 1).toNat, List.mem_range.2 (by omega), by omega⟩
  simpa [keys] using h1
theorem ok60_note {R : Rows} (h : Ok60 R) {n : Int} {p : Int × Int} (hp : okP n p = true) : Ok60 (noteR R p) := by
  obtain ⟨p1, p2, p3, p4⟩ := okP_iff.1 hp
  refine ⟨put_ok h.1 ⟨p1, by omega⟩ (addN_lt (ok_lt h.1 _) _), fun x hx => ?_⟩
  unfold noteR at hx
  rw [put_keys] at hx
  split at hx
  · exact h.2 x hx
  · rcases List.mem_append.1 hx with hx | hx
    · exact h.2 x hx
    · simp only [List.mem_cons, List.not_mem_nil, or_false] at hx; omega
theorem ok60_list {n : Int} : ∀ (l : Pairs) {R : Rows}, Ok60 R → l.all (okP n) = true → Ok60 (noteL R l)
  | [], R, h, _ => h
  | p :: l, R, h, hl => by
    rw [List.all_cons, Bool.and_eq_true] at hl
    exact ok60_list l (ok60_note h hl.1) hl.2
theorem noteL_take (l : Pairs) (k : Nat) (h : k < l.length) : noteL [] (l.take (k + 1)) = noteR (noteL [] (l.take k)) l[k] := by
  unfold noteL
  rw [List.take_succ_eq_append_getElem h, List.foldl_append]
  rfl
theorem all_take {n : Int} {l : Pairs} (h : l.all (okP n) = true) (k : Nat) : (l.take k).all (okP n) = true :=
  List.all_eq_true.2 fun x hx => List.all_eq_true.1 h x (List.mem_of_mem_take hx)

theorem note_in (g b : Nat) (n : Int) (hn : n ≠ 0) (R : Rows) (hR : Ok R) (i r : Int) (h1 : 1 ≤ i) (h2 : i ≤ 1099511627776) (h3 : 0 ≤ r) (h4 : r < n) (hlen : R.length < 64) (w : World) (ht : TallyAt w g b n R) :
    Calls Try.prog 9 #[.pointer (some ⟨g, 0, none⟩), .int .i64 i, .int .i64 r] w fun e w' => e = .returned (.int .i64 0) ∧ TallyAt w' g b n (noteR R (i, r)) ∧ Only b w w' := by
  cases hs : (look R i).isSome
  · exact note_new g b n hn R hR i r h1 h2 h3 h4 hs (by omega) w ht
  · exact note_old g b n hn R hR i r h1 h2 h3 h4 hs (by omega) w ht

set_option maxHeartbeats 4000000 in
theorem noted_ok (n : Int) (hn : n = 3 ∨ n = 5 ∨ n = 7) (l : Pairs) (hok : l.all (okP n) = true) (v : Value) (w : World) (hr : Row w w.heap.size v l.length (l.flatMap pc)) :
    Calls Try.prog 22 #[.int .i64 n, v] w fun e w' => e = .returned (.pointer (some ⟨w.heap.size + 1, 0, none⟩)) ∧ TallyAt w' (w.heap.size + 1) w.heap.size n (noteL [] l) ∧ Below w.heap.size w w' := by
  obtain ⟨A, c, rfl, _, _⟩ := hr.slice
  have hlen := hr.bound
  have HR := Lib.hid hr
  have HOK := Lib.hid hok
  have hn0 : n ≠ 0 := by omega
  have NW := Lib.hid (new_ok n (by rcases hn with rfl | rfl | rfl <;> decide) w)
  clear hr hok hn
  go_enter Try.func22, Try.ntmps22
  go_wp2_with fail
  refine NW.out.mono ?_
  rintro e u ⟨rfl, hta, hbl⟩
  have HT0 := Lib.hid hta
  have HB0 := Lib.hid hbl
  clear hta hbl
  go_wp2_with fail
  go_loopw [7] (fun iv wr => ∃ k : Nat, k ≤ l.length ∧ iv = .int .i64 k ∧ TallyAt wr (w.heap.size + 1) w.heap.size n (noteL [] (l.take k)) ∧ Below w.heap.size w wr) (fun iv _ => l.length - (intOf iv).toNat)
  case atStart => exact ⟨0, Nat.zero_le _, rfl, HT0.out, HB0.out⟩
  case round =>
    obtain ⟨k, hk, rfl, hta, hbl⟩ := hrel
    by_cases hlt : k < l.length
    · have hri := HR.out
      obtain ⟨b, off, rfl, hb0, hx⟩ := hri.elem pc_len (by omega) hlt
      have x0 := (hbl.cell (p := ⟨b, off + (k * 2 + 0), none⟩) hb0).trans (hx 0 _ rfl)
      have x1 := (hbl.cell (p := ⟨b, off + (k * 2 + 1), none⟩) hb0).trans (hx 1 _ rfl)
      simp only [Nat.add_zero] at x0
      rw [← Nat.add_assoc] at x1
      clear hx hri
      have HS := Lib.hid (noteL_take l k hlt)
      have h60 := ok60_list _ ok60_nil (all_take HOK.out k)
      obtain ⟨p1, p2, p3, p4⟩ := okP_iff.1 (List.all_eq_true.1 HOK.out _ (List.getElem_mem hlt))
      have hl60 := ok60_len h60
      have NI := Lib.hid (note_in (w.heap.size + 1) w.heap.size n hn0 _ h60.1 (l[k]).1 (l[k]).2 p1 (by omega) p3 p4 (by omega) _ hta.drew)
      have hsz := hbl.size
      have HB := Lib.hid hbl
      generalize l[k] = p at *
      generalize noteL [] (l.take k) = R at *
      clear h60 hta hbl
      have hk0 : (0 : Int) ≤ (k : Int) := by omega
      have hk1 : (k : Int) < (l.length : Int) := by omega
      go_wp2_with fail
      refine wp_region_still_tail 11 (by kernel_rfl) (by kernel_rfl) ?_
      simp only [List.take_succ_cons, List.take_zero, List.drop_succ_cons, List.drop_zero]
      refine wpStill_step (fun K hK => ?_)
      go_simp
      refine hK _ ?_
      clear hK K
      refine wpStill_step (fun K hK => ?_)
      go_simp
      refine hK _ ?_
      clear hK K
      refine wpStill_step (fun K hK => ?_)
      go_simp
      refine hK _ ?_
      clear hK K
      refine wpStill_step (fun K hK => ?_)
      go_simp
      refine hK _ ?_
      clear hK K
      refine wpStill_step (fun K hK => ?_)
      go_simp
      refine hK _ ?_
      clear hK K
      refine wpStill_step (fun K hK => ?_)
      go_simp
      refine hK _ ?_
      clear hK K
      refine wpStill_step (fun K hK => ?_)
      go_simp
      refine hK _ ?_
      clear hK K
      refine wpStill_step (fun K hK => ?_)
      go_simp
      refine hK _ ?_
      clear hK K
      refine wpStill_step (fun K hK => ?_)
      go_simp
      refine hK _ ?_
      clear hK K
      refine wpStill_step (fun K hK => ?_)
      go_simp
      refine hK _ ?_
      clear hK K
      refine wpStill_step (fun K hK => ?_)
      go_simp
      refine hK _ ?_
      clear hK K
      refine wpStill_nil ?_
      go_wp2_with fail
      refine NI.out.mono ?_
      rintro e u1 ⟨rfl, hta, ho⟩
      have HT := Lib.hid hta
      have HO := Lib.hid ho
      clear hta ho
      go_wp2_with fail
      go_roundw
      case rel => exact ⟨k + 1, by omega, by go_num, by rw [HS.out]; exact HT.out, Only.below (HB.out.drew) HO.out (by simpa using hsz) (Nat.le_refl _)⟩
      case measure => simp [intOf]; omega
    · have e : k = l.length := by omega
      subst e
      rw [List.take_length] at hta
      have HT := Lib.hid hta
      have HB := Lib.hid hbl
      clear hta hbl
      go_wp2_with fail
      go_ret
      exact ⟨rfl, HT.out, HB.out⟩

end Ta
end Go.Proofs.Ytmpcjiacgbcpdaa
