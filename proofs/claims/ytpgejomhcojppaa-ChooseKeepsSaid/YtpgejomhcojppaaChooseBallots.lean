/- The ballots of reports, the greatest first, each once. -/
import Derived.Test.YtpgejomhcojppaaChooseCompact
set_option linter.unusedSimpArgs false
set_option linter.unusedVariables false
namespace Go.Proofs.Ytpgejomhcojppaa
open Go.RowKit
namespace Ch
open Bl
/-- The ballots of reports, the greatest first, each once. -/
def ballots (L : List Rp) : List Ba := let s := sortD (L.map (·.b)); ddN s s.length
set_option maxRecDepth 100000 in
set_option maxHeartbeats 4000000 in
theorem ballots_is (L : List Rp) (v : Value) (B : Nat) (w : World) (hB : B ≤ w.heap.size) (hr : Row w B v L.length (L.flatMap rpC)) (hL : L.length ≤ 500) :
    Calls Try.prog 23 #[v] w fun e w' => ∃ vo, e = .returned vo ∧ w'.ownsRow w.heap.size 27 2 vo (ballots L).length ((ballots L).flatMap baC) ∧ Below w.heap.size w w' := by
  obtain ⟨A, c, rfl, _, _⟩ := hr.slice
  have hbd := hr.bound
  have HR := Lib.hid hr
  obtain ⟨i0, hi, hz0, hz1, hz2⟩ := info_parts info_ba
  clear hr
  go_enter Try.func23, Try.ntmps23
  go_wp2_with fail
  go_loopw [3, 8] (fun ov iv wr => ∃ k : Nat, k ≤ L.length ∧ iv = .int .i64 k ∧ wr.ownsRow w.heap.size 27 2 ov k (((L.take k).map (·.b)).flatMap baC) ∧ Below w.heap.size w wr) (fun _ iv _ => L.length - (intOf iv).toNat)
  case atStart => exact ⟨0, Nat.zero_le _, rfl, ⟨rfl, .inl ⟨rfl, rfl⟩⟩, Below.refl _ _⟩
  case round =>
    obtain ⟨k, hk, rfl, hown, hx⟩ := hrel
    have zs := hx.size
    obtain ⟨Ao, co, rfl, _, _⟩ := (Row.of_own hown).slice
    have HO := Lib.hid hown
    have HB := Lib.hid hx
    clear hown
    by_cases hlt' : k < L.length
    · have h2 := HR.out
      obtain ⟨b2, o2, rfl, hb2, hx2⟩ := h2.elem rpC_len (by omega) hlt'
      have hy : ∀ j x, (rpC L[k])[j]? = some x → wr.cell? ⟨b2, o2 + k * 11 + j, none⟩ = some x := fun j x h => by
        rw [Nat.add_assoc]; exact (hx.cell (p := ⟨b2, o2 + (k * 11 + j), none⟩) (Nat.lt_of_lt_of_le hb2 hB)).trans (hx2 j x h)
      have y0 := hy 0 _ rfl
      have y1 := hy 1 _ rfl
      have y2 := hy 2 _ rfl
      have y3 := hy 3 _ rfl
      have y4 := hy 4 _ rfl
      have y5 := hy 5 _ rfl
      have y6 := hy 6 _ rfl
      have y7 := hy 7 _ rfl
      have y8 := hy 8 _ rfl
      have y9 := hy 9 _ rfl
      have y10 := hy 10 _ rfl
      simp only [Nat.add_zero] at y0
      have hnext : ((L.take (k + 1)).map (·.b)).flatMap baC = ((L.take k).map (·.b)).flatMap baC ++ baC L[k].b := by
        rw [List.take_succ_eq_append_getElem hlt', List.map_append, List.flatMap_append]; simp
      have HN := Lib.hid hnext
      clear hx2 h2 hy hx hnext
      generalize L[k] = x at HN y0 y1 y2 y3 y4 y5 y6 y7 y8 y9 y10
      obtain ⟨xi, xs, ⟨xr, xp⟩, ⟨ek, ec, eq, ⟨ok, oa, ob, oc⟩⟩⟩ := x
      dsimp only at HN y0 y1 y2 y3 y4 y5 y6 y7 y8 y9 y10
      have hk0 : (0 : Int) ≤ (k : Int) := by omega
      have hk1 : (k : Int) < (L.length : Int) := by omega
      have HX6 := Lib.hid (baC_one ⟨xr, xp⟩)
      go_wp2_with (at_builtin
                   refine wpList_append_foot _ rfl (.tmp 12) (.tmp 15) _ rfl w.heap.size 27 i0 _ 2 16 Try.underlying63 hi hz0 hz1 hz2 rfl (by decide) _ k (((L.take k).map (·.b)).flatMap baC) rfl ((HO.out.alloc _).alloc _) (wr.heap.size + 1 + 1) _ 1 (baC ⟨xr, xp⟩) rfl (Row.blk (wh1_2 wr _ 27 (baC ⟨xr, xp⟩)) rfl (by omega) (by unfold maxLen; omega)) rfl HX6.out (by unfold maxLen; omega) (by omega) (by simp; omega) ?_
                   intro v7 w7 hown7 hg7 hv7
                   have HB7 := Lib.hid (below_grown _ ((HO.out.alloc _).alloc _) (by simp; omega) hg7)
                   have HO7 := Lib.hid hown7
                   clear hown7 hg7 hv7)
      refine ⟨⟨k + 1, by omega, by go_num, ?_, ?_⟩, by simp [intOf]; omega⟩
      · rw [HN.out]; exact HO7.out
      · exact ((HB.out.alloc zs _).alloc (by simp; omega) _).trans HB7.out
    · have e : k = L.length := by omega
      subst e
      have hl : (L.map (·.b)).length = L.length := List.length_map ..
      have ho : wr.ownsRow w.heap.size 27 2 (.slice Ao L.length co) (L.map (·.b)).length ((L.map (·.b)).flatMap baC) := by
        have h := HO.out
        rw [List.take_length] at h
        rw [hl]; exact h
      have C := Lib.hid (sortf_is (L.map (·.b)) (.slice Ao L.length co) w.heap.size wr ho zs (by rw [hl]; exact hL))
      have hsl : (sortD (L.map (·.b))).length = L.length := ((sortD_perm _).length_eq).trans hl
      have HE : Hid (ballots L = ddN (sortD (L.map (·.b))) (sortD (L.map (·.b))).length) := rfl
      have HSL := Lib.hid hsl
      generalize L.length = N at *
      clear hx ho hl hsl
      go_wp2_with fail
      refine C.out.mono ?_
      rintro e w1 ⟨rfl, ho1, hb1⟩
      have HB1 := Lib.hid (HB.out.trans hb1)
      have D := Lib.hid (compact_is w.heap.size (sortD (L.map (·.b))) _ w1 ho1 (Nat.le_trans zs hb1.size) (by rw [HSL.out]; exact hL))
      clear ho1 hb1 C HO
      go_wp2_with fail
      refine D.out.mono ?_
      rintro e w2 ⟨v2, rfl, ho2, hb2⟩
      have HB2 := Lib.hid (HB1.out.trans hb2)
      have HO2 := Lib.hid ho2
      clear ho2 hb2 D HB1
      go_wp2_with fail
      go_ret
      exact ⟨_, rfl, by rw [HE.out]; exact HO2.out, HB2.out⟩
end Ch
end Go.Proofs.Ytpgejomhcojppaa
