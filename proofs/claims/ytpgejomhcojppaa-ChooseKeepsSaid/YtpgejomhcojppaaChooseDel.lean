/- Reports that are taken out: slices.IndexFunc, slices.DeleteFunc with the closure of by. -/
import Derived.Test.YtpgejomhcojppaaChooseOnly
set_option linter.unusedSimpArgs false
set_option linter.unusedVariables false
namespace Go.Proofs.Ytpgejomhcojppaa
open Go.RowKit
theorem midSets_take : ∀ (vs cs : List Value) (o p : Nat), p ≤ o → (midSets cs o vs).take p = cs.take p
  | [], _, _, _, _ => rfl
  | v :: r, cs, o, p, h => by
    rw [midSets, midSets_take r _ _ _ (by omega)]
    exact List.take_set_of_le h
/-- Eleven cells, one after another. -/
theorem sc11 (w : World) (b o : Nat) (x0 x1 x2 x3 x4 x5 x6 x7 x8 x9 x10 : Value) : w.setCells b o [x0, x1, x2, x3, x4, x5, x6, x7, x8, x9, x10] =
    ((((((((((w.setCell ⟨b, o, none⟩ x0).setCell ⟨b, o + 1, none⟩ x1).setCell ⟨b, o + 2, none⟩ x2).setCell ⟨b, o + 3, none⟩ x3).setCell ⟨b, o + 4, none⟩ x4).setCell ⟨b, o + 5, none⟩ x5).setCell ⟨b, o + 6, none⟩ x6).setCell ⟨b, o + 7, none⟩ x7).setCell ⟨b, o + 8, none⟩ x8).setCell ⟨b, o + 9, none⟩ x9).setCell ⟨b, o + 10, none⟩ x10 := rfl
theorem foot_then_below {F : Nat → Prop} {a b c : World} (h : Foot F a b) (k : Below b.heap.size b c) : Foot F a c := h.trans (Foot.of_below k)
namespace Ch
open Bl
attribute [local go_sem ↓] Bl.eql_ba Bl.neq_ba
/-- Not by the ballot. -/
def notB (b : Ba) (x : Rp) : Bool := !sameB x.b b
def leftN (p : Rp → Bool) (L : List Rp) (J : Nat) : List Rp := (L.take J).filter (fun x => !p x)
theorem left_next (p : Rp → Bool) (L : List Rp) (k : Nat) (hk : k < L.length) : leftN p L (k + 1) = leftN p L k ++ (if p L[k] then [] else [L[k]]) := by
  unfold leftN
  rw [List.take_succ_eq_append_getElem hk, List.filter_append]
  cases h : p L[k] <;> simp [h]
theorem left_none {p : Rp → Bool} {L : List Rp} (h : L.any p = false) : L.filter (fun x => !p x) = L := by
  rw [List.filter_eq_self]
  intro x hx
  have := List.any_eq_false.1 h x hx
  simpa using this
/-- The row in the loop: the first ones that stay are in front, the others are as they were. -/
structure DS (p : Rp → Bool) (L : List Rp) (J : Nat) (X : List Rp) : Prop where
  le : J ≤ L.length
  len : X.length = L.length
  front : X.take (leftN p L J).length = leftN p L J
  back : X.drop J = L.drop J
  lt : (leftN p L J).length < J
theorem DS.at_ {p : Rp → Bool} {L : List Rp} {J : Nat} {X : List Rp} (h : DS p L J X) (hJ : J < L.length) : ∃ hX : J < X.length, X[J] = L[J] := by
  have hx : J < X.length := by rw [h.len]; exact hJ
  refine ⟨hx, ?_⟩
  have := congrArg (·[0]?) h.back
  simp only [List.getElem?_drop, Nat.add_zero, List.getElem?_eq_getElem hx, List.getElem?_eq_getElem hJ] at this
  exact Option.some.inj this
theorem DS.start {p : Rp → Bool} {L : List Rp} {k : Nat} (hk : k < L.length) (h0 : (L.take k).any p = false) (h1 : p L[k] = true) : DS p L (k + 1) L ∧ (leftN p L (k + 1)).length = k := by
  have e : leftN p L (k + 1) = L.take k := by
    rw [left_next p L k hk, h1]
    unfold leftN
    rw [left_none h0]; simp
  have e2 : (L.take k).length = k := by rw [List.length_take]; omega
  exact ⟨⟨hk, rfl, by rw [e, e2], rfl, by rw [e, e2]; omega⟩, by rw [e, e2]⟩
theorem DS.gone {p : Rp → Bool} {L : List Rp} {J : Nat} {X : List Rp} (h : DS p L J X) (hJ : J < L.length) (hp : p L[J] = true) : DS p L (J + 1) X ∧ leftN p L (J + 1) = leftN p L J := by
  have e : leftN p L (J + 1) = leftN p L J := by
    rw [left_next p L J hJ, hp]; simp
  refine ⟨⟨hJ, h.len, by rw [e]; exact h.front, ?_, by rw [e]; exact Nat.lt_succ_of_lt h.lt⟩, e⟩
  rw [← List.drop_drop, ← List.drop_drop, h.back]
theorem DS.stays {p : Rp → Bool} {L : List Rp} {J : Nat} {X : List Rp} (h : DS p L J X) (hJ : J < L.length) (hp : p L[J] = false) : DS p L (J + 1) (X.set (leftN p L J).length L[J]) ∧ (leftN p L (J + 1)).length = (leftN p L J).length + 1 := by
  have e : leftN p L (J + 1) = leftN p L J ++ [L[J]] := by
    rw [left_next p L J hJ, hp]; simp
  have hl := h.lt
  have hlen := h.len
  refine ⟨⟨hJ, by rw [List.length_set, h.len], ?_, ?_, by rw [e, List.length_append, List.length_singleton]; omega⟩, by rw [e, List.length_append, List.length_singleton]⟩
  · rw [e, List.length_append, List.length_singleton]
    rw [List.take_succ_eq_append_getElem (by rw [List.length_set]; omega), List.getElem_set_self, List.take_set_of_le (Nat.le_refl _), h.front]
  · rw [List.drop_set_of_lt (by omega), ← List.drop_drop, ← List.drop_drop, h.back]
theorem leftN_all (p : Rp → Bool) (L : List Rp) : leftN p L L.length = L.filter (fun x => !p x) := by unfold leftN; rw [List.take_length]

set_option maxHeartbeats 1000000 in
theorem by1_is (h : Nat) (b : Ba) (x : Rp) (u : World) (hb : Whole u h 27 (baC b)) :
    Calls Try.prog 44 #[.agg (rpC x).toArray, .pointer (some ⟨h, 0, none⟩)] u fun e w' => e = .returned (.bool (notB b x)) ∧ Below u.heap.size u w' := by
  obtain ⟨xi, xs, ⟨xr, xp⟩, ⟨ek, ec, eq, ⟨ok, oa, ob, oc⟩⟩⟩ := x
  obtain ⟨br, bp⟩ := b
  have hlt := hb.lt
  have c0 := hb.cell 0; have c1 := hb.cell 1
  simp only [baC, List.getElem?_cons_zero, List.getElem?_cons_succ] at c0 c1
  have HE : Hid (notB ⟨br, bp⟩ ⟨xi, xs, ⟨xr, xp⟩, ⟨ek, ec, eq, ⟨ok, oa, ob, oc⟩⟩⟩ = !sameB ⟨xr, xp⟩ ⟨br, bp⟩) := rfl
  simp only [rpC]
  clear hb
  go_enter Try.func44, Try.ntmps44
  go_wp2_with fail
  go_ret
  exact ⟨by rw [HE.out]; rfl, be1 _ _⟩
set_option maxHeartbeats 4000000 in
theorem indexf_is (h : Nat) (b : Ba) (L : List Rp) (v : Value) (B : Nat) (w : World) (hB : B ≤ w.heap.size) (hr : Row w B v L.length (L.flatMap rpC)) (hb : Whole w h 27 (baC b)) (hL : L.length ≤ 500) :
    Calls Try.prog 54 #[v, .func (.func 44) #[] #[.pointer (some ⟨h, 0, none⟩)]] w fun e w' =>
      ((∃ k, ∃ hk : k < L.length, e = .returned (.int .i64 (k : Nat)) ∧ (L.take k).any (notB b) = false ∧ notB b L[k] = true) ∨ (e = .returned (.int .i64 (-1)) ∧ L.any (notB b) = false)) ∧ Below w.heap.size w w' := by
  have hbd := hr.bound
  obtain ⟨A, c, rfl, _, _⟩ := hr.slice
  have HR := Lib.hid hr
  have HBX := Lib.hid hb
  have hlb := hb.lt
  clear hr hb
  go_enter Try.func54, Try.ntmps54
  go_wp2_with fail
  go_loopw [8] (fun i wr => ∃ k : Nat, k ≤ L.length ∧ i = .int .i64 k ∧ (L.take k).any (notB b) = false ∧ Below w.heap.size w wr) (fun i _ => L.length - (intOf i).toNat)
  case atStart => exact ⟨0, Nat.zero_le _, rfl, by simp, Below.refl _ _⟩
  case round =>
    obtain ⟨k, hk, rfl, hno, hx⟩ := hrel
    have Hno := Lib.hid hno; clear hno
    have zs := hx.size
    by_cases hlt' : k < L.length
    · have h2 := HR.out
      obtain ⟨b2, o2, rfl, hb2, hx2⟩ := h2.elem rpC_len (by omega) hlt'
      have hy : ∀ j x, (rpC L[k])[j]? = some x → wr.cell? ⟨b2, o2 + k * 11 + j, none⟩ = some x := fun j x h => by
        rw [Nat.add_assoc]; exact (hx.cell (p := ⟨b2, o2 + (k * 11 + j), none⟩) (Nat.lt_of_lt_of_le hb2 hB)).trans (hx2 j x h)
      have y0 := hy 0 _ rfl
      have y1 := hy 1 _ rfl
      have y2 := hy 2 _ rfl
      have y3 := hy 3 _ rfl
      have y4 := hy 4 _ rfl
      have y5 := hy 5 _ rfl
      have y6 := hy 6 _ rfl
      have y7 := hy 7 _ rfl
      have y8 := hy 8 _ rfl
      have y9 := hy 9 _ rfl
      have y10 := hy 10 _ rfl
      simp only [Nat.add_zero] at y0
      clear hx2 h2 hy
      have hnext : (L.take (k + 1)).any (notB b) = notB b L[k] := by
        rw [List.take_succ_eq_append_getElem hlt', List.any_append, Hno.out]; simp
      have HN := Lib.hid hnext; clear hnext
      generalize hgx : L[k] = x at HN y0 y1 y2 y3 y4 y5 y6 y7 y8 y9 y10
      have HE := Lib.hid hgx; clear hgx
      have C := by1_is h b x wr (HBX.out.below hx hlb)
      have HXX := Lib.hid hx
      clear hx
      obtain ⟨xi, xs, ⟨xr, xp⟩, ⟨ek, ec, eq, ⟨ok, oa, ob, oc⟩⟩⟩ := x
      dsimp only at y0 y1 y2 y3 y4 y5 y6 y7 y8 y9 y10
      simp only [rpC] at C
      have hk0 : (0 : Int) ≤ (k : Int) := by omega
      have hk1 : (k : Int) < (L.length : Int) := by omega
      cases ho : notB b ⟨xi, xs, ⟨xr, xp⟩, ⟨ek, ec, eq, ⟨ok, oa, ob, oc⟩⟩⟩
      all_goals
        rw [ho] at HN C
        have HP := Lib.hid ho
        clear ho
        have C := Lib.hid C
        go_wp2_with fail
        refine C.out.mono ?_
        rintro e1 w1 ⟨rfl, hb1⟩
        have HX1 := Lib.hid (HXX.out.trans (hb1.mono zs))
        clear hb1
        go_wp2_with fail
      · exact ⟨⟨k + 1, by omega, by go_num, HN.out, HX1.out⟩, by simp [intOf]; omega⟩
      · go_ret
        exact ⟨.inl ⟨k, hlt', rfl, Hno.out, by rw [HE.out]; exact HP.out⟩, HX1.out⟩
    · have e : k = L.length := by omega
      subst e
      go_wp2_with fail
      go_ret
      have := Hno.out
      rw [List.take_length] at this
      exact ⟨.inr ⟨rfl, this⟩, hx⟩
set_option maxHeartbeats 4000000 in
theorem delete_is (base h : Nat) (b : Ba) (L : List Rp) (v : Value) (w : World) (hown : w.ownsRow base 33 11 v L.length (L.flatMap rpC)) (hb : Whole w h 27 (baC b)) (hh : h < base) (hbase : base ≤ w.heap.size) (hL : L.length ≤ 500) :
    Calls Try.prog 42 #[v, .func (.func 44) #[] #[.pointer (some ⟨h, 0, none⟩)]] w fun e w' => ∃ v', e = .returned v' ∧ w'.ownsRow base 33 11 v' (byB b L).length ((byB b L).flatMap rpC) ∧ Below base w w' := by
  have hE : byB b L = L.filter (fun x => !notB b x) := by unfold byB notB; simp
  rw [hE]
  clear hE
  have hr := Row.of_own hown
  have hbd := hr.bound
  have HI := Lib.hid (indexf_is h b L v _ w (Nat.le_refl _) hr hb hL)
  obtain ⟨A, cp, rfl, hcn, hcm⟩ := hr.slice
  have HW := Lib.hid hown
  have HBX := Lib.hid hb
  clear hr hown hb
  go_enter Try.func42, Try.ntmps42
  go_wp2_with fail
  refine HI.out.mono ?_
  rintro e w1 ⟨hres, hx1⟩
  have HO1 := Lib.hid (own_below HW.out hx1)
  have HB1 := Lib.hid (HBX.out.below hx1 HBX.out.lt)
  have HF1 : Hid (Foot (fun j => base ≤ j) w w1) := Foot.of_below hx1
  have HX1 := Lib.hid hx1
  clear hx1 HI
  rcases hres with ⟨k, hk, rfl, hno, hyes⟩ | ⟨rfl, hno⟩
  · have hA : ∃ rb, A = some ⟨rb, 0, none⟩ ∧ base ≤ rb := by
      rcases HW.out.2 with ⟨h', _⟩ | ⟨g', cap', cur, h', hg', _⟩
      · simp only [Value.slice.injEq] at h'; omega
      · simp only [Value.slice.injEq] at h'; exact ⟨g', h'.1, hg'⟩
    obtain ⟨rb, rfl, hrb⟩ := hA
    have HS1 := Lib.hid (DS.start hk hno hyes)
    have hne : ((k : Int) == -1) = false := by simp
    clear hno hyes
    go_wp2_with fail
    go_loopw [5, 6] (fun iv jv wr => ∃ (J D : Nat) (X : List Rp), DS (notB b) L J X ∧ (leftN (notB b) L J).length = D ∧ jv = .int .i64 J ∧ iv = .int .i64 D ∧ wr.ownsRow base 33 11 (.slice (some ⟨rb, 0, none⟩) L.length cp) L.length (X.flatMap rpC) ∧ Whole wr h 27 (baC b) ∧ Foot (fun j => base ≤ j) w wr) (fun _ jv _ => L.length - (intOf jv).toNat)
    case atStart => exact ⟨k + 1, k, L, HS1.out.1, HS1.out.2, by go_num, rfl, HO1.out, HB1.out, HF1.out⟩
    case round =>
      obtain ⟨J, D, X, hds, hD, rfl, rfl, hown2, hbx2, hf2⟩ := hrel
      clear HO1 HS1 HF1 HB1 HX1
      have HD := Lib.hid hds; have HO2 := Lib.hid hown2; have HF2 := Lib.hid hf2; have HBX2 := Lib.hid hbx2
      have hDJ : D < J := hD ▸ hds.lt
      have HDD := Lib.hid hD
      have hJL := hds.le
      have zs := hf2.size
      clear hds hown2 hf2 hD hbx2
      have hj0 : (0 : Int) ≤ (J : Int) := by omega
      by_cases hlt' : J < L.length
      · have hj1 : (J : Int) < (L.length : Int) := by omega
        have hd1 : (D : Int) < (L.length : Int) := by omega
        have hd0 : (0 : Int) ≤ (D : Int) := by omega
        obtain ⟨hJX, hXJ⟩ := HD.out.at_ hlt'
        have hrx : Row wr wr.heap.size (.slice (some ⟨rb, 0, none⟩) X.length cp) X.length (X.flatMap rpC) := by rw [HD.out.len]; exact Row.of_own HO2.out
        obtain ⟨b2, o2, hA2, hb2, hx2⟩ := hrx.elem rpC_len (by omega) hJX
        obtain ⟨rfl, rfl⟩ : rb = b2 ∧ 0 = o2 := by injection hA2 with hA2; injection hA2 with e1 e2; exact ⟨e1, e2⟩
        rw [hXJ] at hx2
        have hy : ∀ j x, (rpC L[J])[j]? = some x → wr.cell? ⟨rb, J * 11 + j, none⟩ = some x := fun j x h => by
          have := hx2 j x h
          rwa [Nat.zero_add] at this
        have y0 := hy 0 _ rfl
        have y1 := hy 1 _ rfl
        have y2 := hy 2 _ rfl
        have y3 := hy 3 _ rfl
        have y4 := hy 4 _ rfl
        have y5 := hy 5 _ rfl
        have y6 := hy 6 _ rfl
        have y7 := hy 7 _ rfl
        have y8 := hy 8 _ rfl
        have y9 := hy 9 _ rfl
        have y10 := hy 10 _ rfl
        simp only [Nat.add_zero] at y0
        clear hx2 hy hrx hA2 hXJ hJX
        have HG := Lib.hid (fun hp => HD.out.gone hlt' hp)
        have HST := Lib.hid (fun hp => HD.out.stays hlt' hp)
        rw [HDD.out] at HST
        generalize L[J] = x at HG HST y0 y1 y2 y3 y4 y5 y6 y7 y8 y9 y10
        have ha := be1 wr (.cells (rpC x).toArray 33)
        have C := by1_is h b x _ (HBX2.out.below ha HBX2.out.lt)
        have HBXX := Whole.new wr 33 (rpC x)
        obtain ⟨xi, xs, ⟨xr, xp⟩, ⟨ek, ec, eq, ⟨ok, oa, ob, oc⟩⟩⟩ := x
        dsimp only at y0 y1 y2 y3 y4 y5 y6 y7 y8 y9 y10
        simp only [rpC] at C HBXX
        have HBXX := Lib.hid HBXX
        clear ha
        cases ho : notB b ⟨xi, xs, ⟨xr, xp⟩, ⟨ek, ec, eq, ⟨ok, oa, ob, oc⟩⟩⟩
        · rw [ho] at C HST
          have HSD := Lib.hid (HST.out rfl)
          have C := Lib.hid C
          clear ho HG HST
          go_wp2_with fail
          refine C.out.mono ?_
          rintro e2 w2 ⟨rfl, hf3⟩
          have hbx := HBXX.out.below hf3 HBXX.out.lt
          have b0 := hbx.cell 0; have b1 := hbx.cell 1; have b2 := hbx.cell 2; have b3 := hbx.cell 3; have b4 := hbx.cell 4; have b5 := hbx.cell 5; have b6 := hbx.cell 6; have b7 := hbx.cell 7; have b8 := hbx.cell 8; have b9 := hbx.cell 9; have b10 := hbx.cell 10
          simp only [List.getElem?_cons_zero, List.getElem?_cons_succ] at b0 b1 b2 b3 b4 b5 b6 b7 b8 b9 b10
          have HO3 := Lib.hid (own_below (HO2.out.alloc _) hf3)
          have HBX3 := Lib.hid ((HBX2.out.alloc _).below hf3 (HBX2.out.alloc _).lt)
          have HF3 := Lib.hid (foot_then_below (HF2.out.alloc _) hf3)
          have hth := own_there HO3.out (D * 11) 11 (by omega)
          obtain ⟨e0, t0c⟩ := Option.isSome_iff_exists.1 (hth 0 (by omega)).1; have t0f := (hth 0 (by omega)).2
          obtain ⟨e1, t1c⟩ := Option.isSome_iff_exists.1 (hth 1 (by omega)).1; have t1f := (hth 1 (by omega)).2
          obtain ⟨e2, t2c⟩ := Option.isSome_iff_exists.1 (hth 2 (by omega)).1; have t2f := (hth 2 (by omega)).2
          obtain ⟨e3, t3c⟩ := Option.isSome_iff_exists.1 (hth 3 (by omega)).1; have t3f := (hth 3 (by omega)).2
          obtain ⟨e4, t4c⟩ := Option.isSome_iff_exists.1 (hth 4 (by omega)).1; have t4f := (hth 4 (by omega)).2
          obtain ⟨e5, t5c⟩ := Option.isSome_iff_exists.1 (hth 5 (by omega)).1; have t5f := (hth 5 (by omega)).2
          obtain ⟨e6, t6c⟩ := Option.isSome_iff_exists.1 (hth 6 (by omega)).1; have t6f := (hth 6 (by omega)).2
          obtain ⟨e7, t7c⟩ := Option.isSome_iff_exists.1 (hth 7 (by omega)).1; have t7f := (hth 7 (by omega)).2
          obtain ⟨e8, t8c⟩ := Option.isSome_iff_exists.1 (hth 8 (by omega)).1; have t8f := (hth 8 (by omega)).2
          obtain ⟨e9, t9c⟩ := Option.isSome_iff_exists.1 (hth 9 (by omega)).1; have t9f := (hth 9 (by omega)).2
          obtain ⟨e10, t10c⟩ := Option.isSome_iff_exists.1 (hth 10 (by omega)).1; have t10f := (hth 10 (by omega)).2
          simp only [Nat.add_zero] at t0c t0f
          clear hbx hf3 hth HBXX C y0 y1 y2 y3 y4 y5 y6 y7 y8 y9 y10
          go_wp2_with fail
          rw [← sc11]
          refine ⟨⟨J + 1, D + 1, X.set D ⟨xi, xs, ⟨xr, xp⟩, ⟨ek, ec, eq, ⟨ok, oa, ob, oc⟩⟩⟩, HSD.out.1, HSD.out.2, by go_num, by go_num, ?_, ?_, ?_⟩, by simp [intOf]; omega⟩
          · have h5 := own_mids (rpC ⟨xi, xs, ⟨xr, xp⟩, ⟨ek, ec, eq, ⟨ok, oa, ob, oc⟩⟩⟩) (D * 11) HO3.out
            rw [flat_mids rpC_len X _ _ (by rw [HD.out.len]; omega)] at h5
            exact h5
          · exact (foot_mids (F := fun j => j = rb) rfl _ _ (Foot.refl _ _)).whole HBX3.out (by omega)
          · exact foot_mids hrb _ _ HF3.out
        · rw [ho] at C HG
          have HSD := Lib.hid (HG.out rfl)
          have C := Lib.hid C
          clear ho HG HST
          go_wp2_with fail
          refine C.out.mono ?_
          rintro e2 w2 ⟨rfl, hf3⟩
          have HO3 := Lib.hid (own_below (HO2.out.alloc _) hf3)
          have HBX3 := Lib.hid ((HBX2.out.alloc _).below hf3 (HBX2.out.alloc _).lt)
          have HF3 := Lib.hid (foot_then_below (HF2.out.alloc _) hf3)
          clear hf3 HBXX C y0 y1 y2 y3 y4 y5 y6 y7 y8 y9 y10
          go_wp2_with fail
          exact ⟨⟨J + 1, D, X, HSD.out.1, by rw [HSD.out.2]; exact HDD.out, by go_num, rfl, HO3.out, HBX3.out, HF3.out⟩, by simp [intOf]; omega⟩
      · have e : J = L.length := by omega
        subst e
        have hd1 : (D : Int) < (L.length : Int) := by omega
        have hd0 : (0 : Int) ≤ (D : Int) := by omega
        have hcp : (L.length : Int) ≤ (cp : Int) := by omega
        have HZ : ∀ w, (zeroValue 33).run Try.prog w = .ok (.agg #[.int .i64 0, .int .u8 0, .int .i64 0, .int .i64 0, .int .u8 0, .int .i64 0, .int .i64 0, .int .u8 0, .string { data := #[] }, .string { data := #[] }, .string { data := #[] }]) w := fun w => by kernel_rfl
        obtain ⟨vs, hvl, hcl⟩ := run_clear_rows wr 61 33 0 _ 11 Try.underlying61 HZ rfl (by intro x hx; simp at hx; rcases hx with rfl | rfl | rfl | rfl | rfl | rfl | rfl | rfl | rfl | rfl | rfl <;> rfl) (by omega) rb (D * 11) (L.length - D) (cp - D) (by omega)
          (own_there HO2.out _ _ (by omega))
        go_wp2_with fail
        go_ret
        have h6 := own_mids vs (D * 11) HO2.out
        have h7 := own_cut h6 (m := D) (by omega)
        have hfr := HD.out.front
        rw [HDD.out] at hfr
        have e2 : (midSets (X.flatMap rpC) (D * 11) vs).take (D * 11) = (L.filter (fun x => !notB b x)).flatMap rpC := by
          rw [midSets_take _ _ _ _ (Nat.le_refl _), flat_take rpC_len, hfr, leftN_all]
        have e3 : (L.filter (fun x => !notB b x)).length = D := by rw [← leftN_all]; exact HDD.out
        rw [e2] at h7
        refine ⟨_, rfl, by rw [e3]; exact h7, ?_⟩
        exact (foot_mids (F := fun j => base ≤ j) hrb _ _ HF2.out).below (fun _ h => h) hbase
  · have hE := left_none hno
    clear hno
    go_wp2_with fail
    go_ret
    rw [hE]
    exact ⟨_, rfl, HO1.out, HX1.out.mono hbase⟩
end Ch
end Go.Proofs.Ytpgejomhcojppaa
