/- Reports of some states: slices.Index, slices.Contains at uint8, only. -/
import Derived.Test.YtpgejomhcojppaaChoosePlain
set_option linter.unusedSimpArgs false
set_option linter.unusedVariables false
namespace Go.Proofs.Ytpgejomhcojppaa
open Go.RowKit
namespace Ch
open Bl
def u8n (S : List Nat) : List Value := S.map fun s => .int .u8 (s : Nat)
set_option maxHeartbeats 1000000 in
theorem index_is (S : List Nat) (x : Nat) (v : Value) (B : Nat) (w : World) (hr : Row w B v S.length (u8n S)) :
    Calls Try.prog 51 #[v, .int .u8 (x : Nat)] w fun e w' => (∃ r : Int, e = .returned (.int .i64 r) ∧ decide (0 ≤ r) = S.contains x) ∧ w = w' := by
  obtain ⟨A, c, rfl, _, _⟩ := hr.slice
  have hbd := hr.bound
  have HR := Lib.hid hr
  clear hr
  go_enter Try.func51, Try.ntmps51
  go_wp2_with fail
  go_loopw [8] (fun i wr => ∃ k : Nat, k ≤ S.length ∧ i = .int .i64 k ∧ (S.take k).contains x = false ∧ wr = w) (fun i _ => S.length - (intOf i).toNat)
  case atStart => exact ⟨0, Nat.zero_le _, rfl, rfl, rfl⟩
  case round =>
    obtain ⟨k, hk, rfl, hno, rfl⟩ := hrel
    have HNO := Lib.hid hno
    clear hno
    by_cases hlt : k < S.length
    · obtain ⟨b2, o2, rfl, hb2, hx2⟩ := HR.out.at_ (j := k) (by simpa [u8n] using hlt)
      have y0 := hx2 k (.int .u8 (S[k] : Nat)) (by simp [u8n, hlt])
      have hnext : Hid ((S.take (k + 1)).contains x = (S[k] == x)) := by
        show (S.take (k + 1)).contains x = _
        rw [List.take_succ_eq_append_getElem hlt, Bool.eq_iff_iff]
        have := HNO.out
        simp only [List.contains_eq_mem, decide_eq_false_iff_not] at this
        simp only [List.contains_eq_mem, decide_eq_true_eq, List.mem_append, List.mem_singleton, beq_iff_eq]
        constructor
        · rintro (h | h)
          · exact absurd h this
          · exact h.symm
        · intro h; exact .inr h.symm
      have hmem : Hid (S[k] = x → S.contains x = true) := fun h => by
        simp only [List.contains_eq_mem, decide_eq_true_eq]
        rw [← h]; exact List.getElem_mem hlt
      clear hx2
      generalize S[k] = y at *
      have hk0 : (0 : Int) ≤ (k : Int) := by omega
      have hk1 : (k : Int) < (S.length : Int) := by omega
      by_cases hxy : x = y
      · subst hxy
        have HM := Lib.hid (hmem.out rfl)
        clear hmem hnext
        go_wp2_with fail
        go_ret
        exact ⟨⟨_, rfl, by rw [HM.out]; exact decide_eq_true hk0⟩, by trivial⟩
      · have hne : ((x : Int) == (y : Int)) = false := by simp; omega
        have HN2 : Hid ((S.take (k + 1)).contains x = false) := by show (S.take (k + 1)).contains x = false; rw [hnext.out]; simp; omega
        clear hmem hnext hxy
        go_wp2_with fail
        go_round
        · exact ⟨k + 1, by omega, by go_num, HN2.out, by trivial⟩
        · show S.length - ((k : Int) + 1).toNat < S.length - (k : Int).toNat; omega
    · have e : k = S.length := by omega
      subst e
      go_wp2_with fail
      go_ret
      have := HNO.out
      rw [List.take_length] at this
      exact ⟨⟨_, rfl, by rw [this]; rfl⟩, rfl⟩
set_option maxHeartbeats 1000000 in
theorem contains_is (S : List Nat) (x : Nat) (v : Value) (B : Nat) (w : World) (hr : Row w B v S.length (u8n S)) :
    Calls Try.prog 38 #[v, .int .u8 (x : Nat)] w fun e w' => e = .returned (.bool (S.contains x)) ∧ w = w' := by
  have C := Lib.hid (index_is S x v B w hr)
  clear hr
  go_enter Try.func38, Try.ntmps38
  go_wp2_with fail
  refine C.out.mono ?_
  rintro e w' ⟨⟨r, rfl, hE⟩, rfl⟩
  have HE := Lib.hid hE
  clear hE
  go_wp2_with fail
  go_ret
  exact ⟨by rw [← HE.out]; rfl, rfl⟩
set_option maxHeartbeats 4000000 in
theorem only_is (S : List Nat) (L : List Rp) (sv v : Value) (B : Nat) (w : World) (hB : B ≤ w.heap.size) (hr : Row w B v L.length (L.flatMap rpC)) (hs : Row w w.heap.size sv S.length (u8n S)) (hL : L.length ≤ 500) :
    Calls Try.prog 22 #[v, sv] w fun e w' => ∃ vo, e = .returned vo ∧ w'.ownsRow w.heap.size 33 11 vo (only S L).length ((only S L).flatMap rpC) ∧ Below w.heap.size w w' := by
  obtain ⟨A, c, rfl, _, _⟩ := hr.slice
  obtain ⟨SA, sc, rfl, _, _⟩ := hs.slice
  have hbd := hr.bound
  have HR := Lib.hid hr
  have HSR := Lib.hid hs
  obtain ⟨i0, hi, hz0, hz1, hz2⟩ := info_parts info_rp
  clear hr hs
  go_enter Try.func22, Try.ntmps22
  go_wp2_with fail
  go_loopw [5, 10] (fun ov iv wr => ∃ k : Nat, k ≤ L.length ∧ iv = .int .i64 k ∧ wr.ownsRow w.heap.size 33 11 ov (only S (L.take k)).length ((only S (L.take k)).flatMap rpC) ∧ Below w.heap.size w wr) (fun _ iv _ => L.length - (intOf iv).toNat)
  case atStart => exact ⟨0, Nat.zero_le _, rfl, ⟨rfl, .inl ⟨rfl, rfl⟩⟩, Below.refl _ _⟩
  case round =>
    obtain ⟨k, hk, rfl, hown, hx⟩ := hrel
    have zs := hx.size
    obtain ⟨Ao, co, rfl, _, _⟩ := (Row.of_own hown).slice
    have HO := Lib.hid hown
    have HB := Lib.hid hx
    have hle : (only S (L.take k)).length ≤ k := by
      have := List.length_filter_le (fun x : Rp => S.contains x.st) (L.take k)
      rw [List.length_take] at this
      unfold only; omega
    clear hown
    by_cases hlt' : k < L.length
    · have h2 := HR.out
      obtain ⟨b2, o2, rfl, hb2, hx2⟩ := h2.elem rpC_len (by omega) hlt'
      have hy : ∀ j x, (rpC L[k])[j]? = some x → wr.cell? ⟨b2, o2 + k * 11 + j, none⟩ = some x := fun j x h => by
        rw [Nat.add_assoc]; exact (hx.cell (p := ⟨b2, o2 + (k * 11 + j), none⟩) (Nat.lt_of_lt_of_le hb2 hB)).trans (hx2 j x h)
      have y0 := hy 0 _ rfl
      have y1 := hy 1 _ rfl
      have y2 := hy 2 _ rfl
      have y3 := hy 3 _ rfl
      have y4 := hy 4 _ rfl
      have y5 := hy 5 _ rfl
      have y6 := hy 6 _ rfl
      have y7 := hy 7 _ rfl
      have y8 := hy 8 _ rfl
      have y9 := hy 9 _ rfl
      have y10 := hy 10 _ rfl
      simp only [Nat.add_zero] at y0
      have hnext : only S (L.take (k + 1)) = if S.contains L[k].st then only S (L.take k) ++ [L[k]] else only S (L.take k) := by
        unfold only
        rw [List.take_succ_eq_append_getElem hlt', List.filter_append]
        cases h : S.contains L[k].st
        · rw [if_neg (by simp)]; simp [h, -List.contains_eq_mem]
        · rw [if_pos rfl]; simp [h, -List.contains_eq_mem]
      have HN := Lib.hid hnext
      clear hx2 h2 hy hx hnext
      generalize L[k] = x at HN y0 y1 y2 y3 y4 y5 y6 y7 y8 y9 y10
      obtain ⟨xi, xs, ⟨xr, xp⟩, ⟨ek, ec, eq, ⟨ok, oa, ob, oc⟩⟩⟩ := x
      dsimp only at HN y0 y1 y2 y3 y4 y5 y6 y7 y8 y9 y10
      have C := Lib.hid (contains_is S xs (.slice SA S.length sc) w.heap.size (wr.alloc (.cells #[.int .i64 xi, .int .u8 (xs : Nat), .int .i64 xr, .int .i64 xp, .int .u8 (ek : Nat), .int .i64 ec, .int .i64 eq, .int .u8 (ok : Nat), .string oa, .string ob, .string oc] 33)) ((HSR.out.below HB.out).alloc zs _))
      have hk0 : (0 : Int) ≤ (k : Int) := by omega
      have hk1 : (k : Int) < (L.length : Int) := by omega
      have HX6 := Lib.hid (rpC_one ⟨xi, xs, ⟨xr, xp⟩, ⟨ek, ec, eq, ⟨ok, oa, ob, oc⟩⟩⟩)
      cases hc : S.contains xs
      · rw [hc] at C HN
        rw [if_neg (by simp)] at HN
        clear hc
        go_wp2_with fail
        refine C.out.mono ?_
        rintro e w2 ⟨rfl, rfl⟩
        clear C
        go_wp2_with fail
        go_round
        · refine ⟨k + 1, by omega, by go_num, ?_, HB.out.alloc zs _⟩
          rw [HN.out]; exact HO.out.alloc _
        · show L.length - ((k : Int) + 1).toNat < L.length - (k : Int).toNat; omega
      · rw [hc] at C HN
        rw [if_pos rfl] at HN
        clear hc
        go_wp2_with fail
        refine C.out.mono ?_
        rintro e w2 ⟨rfl, rfl⟩
        clear C
        have hfm : (only S (L.take k) ++ [(⟨xi, xs, ⟨xr, xp⟩, ⟨ek, ec, eq, ⟨ok, oa, ob, oc⟩⟩⟩ : Rp)]).flatMap rpC = (only S (L.take k)).flatMap rpC ++ rpC ⟨xi, xs, ⟨xr, xp⟩, ⟨ek, ec, eq, ⟨ok, oa, ob, oc⟩⟩⟩ := by rw [List.flatMap_append]; simp
        have hln : (only S (L.take k) ++ [(⟨xi, xs, ⟨xr, xp⟩, ⟨ek, ec, eq, ⟨ok, oa, ob, oc⟩⟩⟩ : Rp)]).length = (only S (L.take k)).length + 1 := by simp
        have HF := Lib.hid hfm
        have HLN := Lib.hid hln
        clear hfm hln
        generalize (only S (L.take k)).length = m at *
        go_wp2_with (at_builtin
                     refine wpList_append_foot _ rfl (.tmp 18) (.tmp 20) _ rfl w.heap.size 33 i0 _ 11 112 Try.underlying61 hi hz0 hz1 hz2 rfl (by decide) _ m ((only S (L.take k)).flatMap rpC) rfl ((HO.out.alloc _).alloc _) (wr.heap.size + 1 + 1) _ 1 (rpC ⟨xi, xs, ⟨xr, xp⟩, ⟨ek, ec, eq, ⟨ok, oa, ob, oc⟩⟩⟩) rfl (Row.blk (wh1_2 wr _ 33 (rpC ⟨xi, xs, ⟨xr, xp⟩, ⟨ek, ec, eq, ⟨ok, oa, ob, oc⟩⟩⟩)) rfl (by omega) (by unfold maxLen; omega)) rfl HX6.out (by unfold maxLen; omega) (by omega) (by simp; omega) ?_
                     intro v7 w7 hown7 hg7 hv7
                     have HB7 := Lib.hid (below_grown _ ((HO.out.alloc _).alloc _) (by simp; omega) hg7)
                     have HO7 := Lib.hid hown7
                     clear hown7 hg7 hv7)
        go_round
        · refine ⟨k + 1, by omega, by go_num, ?_, ((HB.out.alloc zs _).alloc (by simp; omega) _).trans HB7.out⟩
          rw [HN.out, HF.out, HLN.out]; exact HO7.out
        · show L.length - ((k : Int) + 1).toNat < L.length - (k : Int).toNat; omega
    · have e : k = L.length := by omega
      subst e
      clear hx
      go_wp2_with fail
      go_ret
      refine ⟨.slice Ao (only S (L.take L.length)).length co, rfl, ?_, HB.out⟩
      have h := HO.out
      rw [List.take_length] at h ⊢
      exact h
end Ch
end Go.Proofs.Ytpgejomhcojppaa
