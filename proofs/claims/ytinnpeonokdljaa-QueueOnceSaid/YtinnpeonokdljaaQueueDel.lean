/- slices.DeleteFunc with take$1: what is left lies in the same row. -/
import Derived.Test.YtinnpeonokdljaaQueueTake
set_option linter.unusedSimpArgs false
set_option linter.unusedVariables false
namespace Go.Proofs.Ytinnpeonokdljaa
open Go.RowKit

theorem midSets_take : ∀ (vs cs : List Value) (o p : Nat), p ≤ o → (midSets cs o vs).take p = cs.take p
  | [], _, _, _, _ => rfl
  | v :: r, cs, o, p, h => by
    rw [midSets, midSets_take r _ _ _ (by omega)]
    exact List.take_set_of_le h
/-- One's own row reads ahead of every block that it does not reach. -/
theorem Row.of_own_at {w : World} {base : Nat} {e : TypeId} {size n : Nat} {v : Value} {xs : List Value} (h : w.ownsRow base e size v n xs) (B : Nat) (hB : ∀ i, v.ownBlock = some i → i < B) : Row w B v n xs := by
  obtain ⟨A, c, hv, hn, hc, hx⟩ := Row.of_own h
  refine ⟨A, c, hv, hn, hc, fun hne => ?_⟩
  obtain ⟨b, off, hA, _, hcell⟩ := hx hne
  subst hv hA
  refine ⟨b, off, rfl, ?_, hcell⟩
  rcases h.2 with ⟨h', _⟩ | ⟨g', cap', cur, h', _⟩
  · simp at h'
  · simp only [Value.slice.injEq, Option.some.injEq, Addr.mk.injEq, and_true, true_and] at h'
    obtain ⟨⟨rfl, rfl⟩, rfl⟩ := h'
    exact hB _ rfl

/-- Nine cells, one after another. -/
theorem sc9 (w : World) (b o : Nat) (x0 x1 x2 x3 x4 x5 x6 x7 x8 : Value) : w.setCells b o [x0, x1, x2, x3, x4, x5, x6, x7, x8] =
    ((((((((w.setCell ⟨b, o, none⟩ x0).setCell ⟨b, o + 1, none⟩ x1).setCell ⟨b, o + 2, none⟩ x2).setCell ⟨b, o + 3, none⟩ x3).setCell ⟨b, o + 4, none⟩ x4).setCell ⟨b, o + 5, none⟩ x5).setCell ⟨b, o + 6, none⟩ x6).setCell ⟨b, o + 7, none⟩ x7).setCell ⟨b, o + 8, none⟩ x8 := rfl

namespace Qu
theorem size_wt : (Try.prog.info? 66).map (·.size) = some 9 := by kernel_rfl
/-- Those that stay, of the first ones. -/
def leftN (p : Wt → Bool) (L : List Wt) (J : Nat) : List Wt := (L.take J).filter (fun x => !p x)
/-- The row in the loop: the first ones that stay are in front, the others are as they were. -/
structure DS (p : Wt → Bool) (L : List Wt) (J : Nat) (X : List Wt) : Prop where
  le : J ≤ L.length
  len : X.length = L.length
  front : X.take (leftN p L J).length = leftN p L J
  back : X.drop J = L.drop J
  lt : (leftN p L J).length < J
theorem DS.at_ {p : Wt → Bool} {L : List Wt} {J : Nat} {X : List Wt} (h : DS p L J X) (hJ : J < L.length) : ∃ hX : J < X.length, X[J] = L[J] := by
  have hx : J < X.length := by rw [h.len]; exact hJ
  refine ⟨hx, ?_⟩
  have := congrArg (·[0]?) h.back
  simp only [List.getElem?_drop, Nat.add_zero, List.getElem?_eq_getElem hx, List.getElem?_eq_getElem hJ] at this
  exact Option.some.inj this
theorem DS.start {p : Wt → Bool} {L : List Wt} {k : Nat} (hk : k < L.length) (h0 : (L.take k).any p = false) (h1 : p L[k] = true) : DS p L (k + 1) L ∧ (leftN p L (k + 1)).length = k := by
  have e : leftN p L (k + 1) = L.take k := by
    unfold leftN
    rw [left_next p L k hk, left_none h0, h1]; simp
  have e2 : (L.take k).length = k := by rw [List.length_take]; omega
  exact ⟨⟨hk, rfl, by rw [e, e2], rfl, by rw [e, e2]; omega⟩, by rw [e, e2]⟩
theorem DS.gone {p : Wt → Bool} {L : List Wt} {J : Nat} {X : List Wt} (h : DS p L J X) (hJ : J < L.length) (hp : p L[J] = true) : DS p L (J + 1) X ∧ leftN p L (J + 1) = leftN p L J := by
  have e : leftN p L (J + 1) = leftN p L J := by
    unfold leftN
    rw [left_next p L J hJ, hp]; simp
  refine ⟨⟨hJ, h.len, by rw [e]; exact h.front, ?_, by rw [e]; exact Nat.lt_succ_of_lt h.lt⟩, e⟩
  rw [← List.drop_drop, ← List.drop_drop, h.back]
theorem DS.stays {p : Wt → Bool} {L : List Wt} {J : Nat} {X : List Wt} (h : DS p L J X) (hJ : J < L.length) (hp : p L[J] = false) : DS p L (J + 1) (X.set (leftN p L J).length L[J]) ∧ (leftN p L (J + 1)).length = (leftN p L J).length + 1 := by
  have e : leftN p L (J + 1) = leftN p L J ++ [L[J]] := by
    unfold leftN
    rw [left_next p L J hJ, hp]; simp
  have hl := h.lt
  have hlen := h.len
  refine ⟨⟨hJ, by rw [List.length_set, h.len], ?_, ?_, by rw [e, List.length_append, List.length_singleton]; omega⟩, by rw [e, List.length_append, List.length_singleton]⟩
  · rw [e, List.length_append, List.length_singleton]
    rw [List.take_succ_eq_append_getElem (by rw [List.length_set]; omega), List.getElem_set_self, List.take_set_of_le (Nat.le_refl _), h.front]
  · rw [List.drop_set_of_lt (by omega), ← List.drop_drop, ← List.drop_drop, h.back]
theorem leftN_all (p : Wt → Bool) (L : List Wt) : leftN p L L.length = L.filter (fun x => !p x) := by unfold leftN; rw [List.take_length]

set_option maxHeartbeats 4000000 in
theorem delete_take (p : Wt → Bool) (base h0 h1 : Nat) (L : List Wt) (v : Value) (vo : Value) (w : World) (hown : w.ownsRow base 66 9 v L.length (L.flatMap wtC)) (hb1 : ∀ i, v.ownBlock = some i → i < h1) (hL : L.length ≤ 500) (hs : ∀ x ∈ L, x.set < 256) (hox : OV h1 w [] vo)
    (ht : T1 h0 h1 p (fun k => v.ownBlock = some k ∨ h1 ≤ k) w) :
    Calls Try.prog 54 #[v, .func (.func 55) #[] #[.pointer (some ⟨h0, 0, none⟩), .pointer (some ⟨h1, 0, none⟩)]] w fun e w' =>
      (∃ v', e = .returned v' ∧ w'.ownsRow base 66 9 v' (L.filter (fun x => !p x)).length ((L.filter (fun x => !p x)).flatMap wtC) ∧ v'.ownBlock = v.ownBlock) ∧ (∃ vo', OV h1 w' (took p L) vo') ∧ Foot (fun k => v.ownBlock = some k ∨ h1 ≤ k) w w' := by
  have hlt := hox.lt
  have hr := Row.of_own_at hown h1 hb1
  have hbd := hr.bound
  have HI := Lib.hid (index_take p _ h0 h1 L v w hr (fun k hk => .inr hk) hL hs vo hox ht)
  obtain ⟨A, cp, rfl, hcn, hcm⟩ := hr.slice
  have HT := Lib.hid ht
  have HW := Lib.hid hown
  have HB1 := Lib.hid hb1
  have HS := Lib.hid hs
  clear hr ht hox hown hb1 hs
  go_enter Try.func54, Try.ntmps54
  go_wp2_with fail
  refine HI.out.mono ?_
  rintro e w1 ⟨hres, hx1⟩
  have HU : Hid (∀ {u : World}, Below h1 w u → u.ownsRow base 66 9 (.slice A L.length cp) L.length (L.flatMap wtC)) := fun {u} hu => (Foot.mono (G := fun k => h1 ≤ k) ⟨hu.os, hu.tape, hu.output, hu.size, fun i _ hn => hu.block i (by omega)⟩ (fun _ h => h)).own HW.out (fun i hi e => by have := HB1.out i hi; omega)
  rcases hres with ⟨k, hk, rfl, hno, hyes, vo1, hox1⟩ | ⟨rfl, hno, vo1, hox1⟩
  · have hA : ∃ rb, A = some ⟨rb, 0, none⟩ := by
      rcases HW.out.2 with ⟨h', _⟩ | ⟨g', cap', cur, h', _⟩
      · simp only [Value.slice.injEq] at h'; omega
      · simp only [Value.slice.injEq] at h'; exact ⟨g', h'.1⟩
    obtain ⟨rb, rfl⟩ := hA
    have hrb : rb < h1 := HB1.out rb rfl
    have HO1 := Lib.hid (HU.out hx1)
    have HX1 := Lib.hid hox1
    have HS1 := Lib.hid (DS.start hk hno hyes)
    have HN := Lib.hid (took_next p L k hk)
    have HTN := Lib.hid (took_none hno)
    have HY := Lib.hid hyes
    have HF1 : Hid (Foot (fun j => (Value.slice (some ⟨rb, 0, none⟩) L.length cp).ownBlock = some j ∨ h1 ≤ j) w w1) := Foot.mono (F := fun j => h1 ≤ j) ⟨hx1.os, hx1.tape, hx1.output, hx1.size, fun i _ hn => hx1.block i (by omega)⟩ (fun _ h => .inr h)
    have hne : ((k : Int) == -1) = false := by simp
    clear hox1 hno hyes HU hx1 HI
    go_wp2_with fail
    go_loopw [5, 6] (fun iv jv wr => ∃ (J D : Nat) (X : List Wt), DS p L J X ∧ (leftN p L J).length = D ∧ jv = .int .i64 J ∧ iv = .int .i64 D ∧ (∃ vo, OV h1 wr (took p (L.take J)) vo) ∧ wr.ownsRow base 66 9 (.slice (some ⟨rb, 0, none⟩) L.length cp) L.length (X.flatMap wtC) ∧ Foot (fun j => (Value.slice (some ⟨rb, 0, none⟩) L.length cp).ownBlock = some j ∨ h1 ≤ j) w wr) (fun _ jv _ => L.length - (intOf jv).toNat)
    case atStart =>
      refine ⟨k + 1, k, L, HS1.out.1, HS1.out.2, by go_num, rfl, ⟨vo1, ?_⟩, HO1.out, HF1.out⟩
      rw [HN.out, HTN.out, HY.out]
      exact HX1.out
    case round =>
      obtain ⟨J, D, X, hds, hD, rfl, rfl, ⟨vo2, hox2⟩, hown2, hf2⟩ := hrel
      clear HO1 HX1 HS1 HN HTN HY HF1
      have HD := Lib.hid hds; have HX2 := Lib.hid hox2; have HO2 := Lib.hid hown2; have HF2 := Lib.hid hf2
      have hDJ : D < J := hD ▸ hds.lt
      have HDD := Lib.hid hD
      have hJL := hds.le
      have zs := hf2.size
      have hl2 := hox2.lt
      clear hds hox2 hown2 hf2 hD
      have hj0 : (0 : Int) ≤ (J : Int) := by omega
      by_cases hlt' : J < L.length
      · have hj1 : (J : Int) < (L.length : Int) := by omega
        have hd1 : (D : Int) < (L.length : Int) := by omega
        have hd0 : (0 : Int) ≤ (D : Int) := by omega
        obtain ⟨hJX, hXJ⟩ := HD.out.at_ hlt'
        have hrx : Row wr h1 (.slice (some ⟨rb, 0, none⟩) X.length cp) X.length (X.flatMap wtC) := by rw [HD.out.len]; exact Row.of_own_at HO2.out h1 HB1.out
        obtain ⟨b2, o2, hA2, hb2, hx2⟩ := hrx.elem wtC_len (by omega) hJX
        obtain ⟨rfl, rfl⟩ : rb = b2 ∧ 0 = o2 := by injection hA2 with hA2; injection hA2 with e1 e2; exact ⟨e1, e2⟩
        rw [hXJ] at hx2
        have hy : ∀ j x, (wtC L[J])[j]? = some x → wr.cell? ⟨rb, J * 9 + j, none⟩ = some x := fun j x h => by
          have := hx2 j x h
          rwa [Nat.zero_add] at this
        have y0 := hy 0 _ rfl
        have y1 := hy 1 _ rfl
        have y2 := hy 2 _ rfl
        have y3 := hy 3 _ rfl
        have y4 := hy 4 _ rfl
        have y5 := hy 5 _ rfl
        have y6 := hy 6 _ rfl
        have y7 := hy 7 _ rfl
        have y8 := hy 8 _ rfl
        simp only [Nat.add_zero] at y0
        clear hx2 hy hrx hA2 hXJ hJX
        have HTN := Lib.hid (took_next p L J hlt')
        have HG := Lib.hid (fun hp => HD.out.gone hlt' hp)
        have HST := Lib.hid (fun hp => HD.out.stays hlt' hp)
        rw [HDD.out] at HST
        have h256 := HS.out _ (List.getElem_mem hlt')
        generalize L[J] = x at h256 HTN HG HST y0 y1 y2 y3 y4 y5 y6 y7 y8
        obtain ⟨⟨xm, xs, ⟨xk, xa, xb, xc⟩⟩, xn, xi, xt⟩ := x
        dsimp only at h256 y0 y1 y2 y3 y4 y5 y6 y7 y8
        have ha := be1 wr (.cells #[.int .i64 xm, .int .i64 xs, .int .u8 (xk : Nat), .string xa, .string xb, .string xc, .int .i64 xn, .int .i64 xi, .int .u8 (xt : Nat)] 66)
        have HO := HT.out xm xs xk xa xb xc xn xi xt (took p (L.take J)) vo2 (wr.alloc (.cells #[.int .i64 xm, .int .i64 xs, .int .u8 (xk : Nat), .string xa, .string xb, .string xc, .int .i64 xn, .int .i64 xi, .int .u8 (xt : Nat)] 66)) h256 (by have := took_len p (L.take J); rw [List.length_take] at this; omega) (HX2.out.below ha) (HF2.out.alloc _)
        have HBX := Lib.hid (Whole.new wr 66 [.int .i64 xm, .int .i64 xs, .int .u8 (xk : Nat), .string xa, .string xb, .string xc, .int .i64 xn, .int .i64 xi, .int .u8 (xt : Nat)])
        have HFE := Lib.hid (HX2.out.feet)
        clear ha
        cases ho : p ⟨⟨xm, xs, ⟨xk, xa, xb, xc⟩⟩, xn, xi, xt⟩
        · rw [ho] at HTN HO HST
          have HSD := Lib.hid (HST.out rfl)
          have HO' := Lib.hid HO
          clear ho HO HG HST
          go_wp2_with fail
          refine HO'.out.mono ?_
          rintro e2 w2 ⟨rfl, ⟨vo3, hox3⟩, hf3⟩
          have hbx := hf3.whole HBX.out (fun e => by have := HFE.out _ e; omega)
          have b0 := hbx.cell 0; have b1 := hbx.cell 1; have b2 := hbx.cell 2; have b3 := hbx.cell 3; have b4 := hbx.cell 4; have b5 := hbx.cell 5; have b6 := hbx.cell 6; have b7 := hbx.cell 7; have b8 := hbx.cell 8
          simp only [List.getElem?_cons_zero, List.getElem?_cons_succ] at b0 b1 b2 b3 b4 b5 b6 b7 b8
          have HO3 := Lib.hid (hf3.own (HO2.out.alloc _) (fun i hi e => by have := HFE.out _ e; have := HB1.out i hi; omega))
          have HF3 := Lib.hid (((HF2.out.alloc _).trans (hf3.mono fun i hi => .inr (HFE.out _ hi).1)))
          have HX3 := Lib.hid hox3
          have hth := own_there HO3.out (D * 9) 9 (by omega)
          obtain ⟨e0, t0c⟩ := Option.isSome_iff_exists.1 (hth 0 (by omega)).1; have t0f := (hth 0 (by omega)).2
          obtain ⟨e1, t1c⟩ := Option.isSome_iff_exists.1 (hth 1 (by omega)).1; have t1f := (hth 1 (by omega)).2
          obtain ⟨e2, t2c⟩ := Option.isSome_iff_exists.1 (hth 2 (by omega)).1; have t2f := (hth 2 (by omega)).2
          obtain ⟨e3, t3c⟩ := Option.isSome_iff_exists.1 (hth 3 (by omega)).1; have t3f := (hth 3 (by omega)).2
          obtain ⟨e4, t4c⟩ := Option.isSome_iff_exists.1 (hth 4 (by omega)).1; have t4f := (hth 4 (by omega)).2
          obtain ⟨e5, t5c⟩ := Option.isSome_iff_exists.1 (hth 5 (by omega)).1; have t5f := (hth 5 (by omega)).2
          obtain ⟨e6, t6c⟩ := Option.isSome_iff_exists.1 (hth 6 (by omega)).1; have t6f := (hth 6 (by omega)).2
          obtain ⟨e7, t7c⟩ := Option.isSome_iff_exists.1 (hth 7 (by omega)).1; have t7f := (hth 7 (by omega)).2
          obtain ⟨e8, t8c⟩ := Option.isSome_iff_exists.1 (hth 8 (by omega)).1; have t8f := (hth 8 (by omega)).2
          simp only [Nat.add_zero] at t0c t0f
          clear hbx hf3 hox3 hth HBX y0 y1 y2 y3 y4 y5 y6 y7 y8
          go_wp2_with fail
          rw [← sc9]
          refine ⟨⟨J + 1, D + 1, X.set D ⟨⟨xm, xs, ⟨xk, xa, xb, xc⟩⟩, xn, xi, xt⟩, HSD.out.1, HSD.out.2, by go_num, by go_num, ⟨vo3, ?_⟩, ?_, ?_⟩, by simp [intOf]; omega⟩
          · rw [HTN.out]
            have h5 : OV h1 (w2.setCells rb (D * 9) [.int .i64 xm, .int .i64 xs, .int .u8 (xk : Nat), .string xa, .string xb, .string xc, .int .i64 xn, .int .i64 xi, .int .u8 (xt : Nat)]) _ vo3 := OV.foot (F := fun j => j = rb) HX3.out (foot_mids (F := fun j => j = rb) rfl _ _ (Foot.refl _ _)) (by rintro i rfl; exact hrb)
            exact h5
          · have h5 := own_mids (wtC ⟨⟨xm, xs, ⟨xk, xa, xb, xc⟩⟩, xn, xi, xt⟩) (D * 9) HO3.out
            rw [flat_mids wtC_len X _ _ (by rw [HD.out.len]; omega)] at h5
            exact h5
          · exact foot_mids (.inl rfl) _ _ HF3.out
        · rw [ho] at HTN HO HG
          have HSD := Lib.hid (HG.out rfl)
          have HO' := Lib.hid HO
          clear ho HO HG HST
          go_wp2_with fail
          refine HO'.out.mono ?_
          rintro e2 w2 ⟨rfl, ⟨vo3, hox3⟩, hf3⟩
          have HO3 := Lib.hid (hf3.own (HO2.out.alloc _) (fun i hi e => by have := HFE.out _ e; have := HB1.out i hi; omega))
          have HF3 := Lib.hid (((HF2.out.alloc _).trans (hf3.mono fun i hi => .inr (HFE.out _ hi).1)))
          have HX3 := Lib.hid hox3
          clear hf3 hox3 HBX y0 y1 y2 y3 y4 y5 y6 y7 y8
          go_wp2_with fail
          refine ⟨⟨J + 1, D, X, HSD.out.1, by rw [HSD.out.2]; exact HDD.out, by go_num, rfl, ⟨vo3, ?_⟩, HO3.out, HF3.out⟩, by simp [intOf]; omega⟩
          rw [HTN.out]
          exact HX3.out
      · have e : J = L.length := by omega
        subst e
        have hd1 : (D : Int) < (L.length : Int) := by omega
        have hd0 : (0 : Int) ≤ (D : Int) := by omega
        have hcp : (L.length : Int) ≤ (cp : Int) := by omega
        have HZ : ∀ w, (zeroValue 66).run Try.prog w = .ok (.agg #[.int .i64 0, .int .i64 0, .int .u8 0, .string { data := #[] }, .string { data := #[] }, .string { data := #[] }, .int .i64 0, .int .i64 0, .int .u8 0]) w := fun w => by kernel_rfl
        obtain ⟨vs, hvl, hcl⟩ := run_clear_rows wr 31 66 0 _ 9 Try.underlying31 HZ rfl (by intro x hx; simp at hx; rcases hx with rfl | rfl | rfl | rfl | rfl | rfl | rfl | rfl | rfl <;> rfl) (by omega) rb (D * 9) (L.length - D) (cp - D) (by omega)
          (own_there HO2.out _ _ (by omega))
        go_wp2_with fail
        go_ret
        have h6 := own_mids vs (D * 9) HO2.out
        have h7 := own_cut h6 (m := D) (by omega)
        have hfr := HD.out.front
        rw [HDD.out] at hfr
        have e2 : (midSets (X.flatMap wtC) (D * 9) vs).take (D * 9) = (L.filter (fun x => !p x)).flatMap wtC := by
          rw [midSets_take _ _ _ _ (Nat.le_refl _), flat_take wtC_len, hfr, leftN_all]
        have e3 : (L.filter (fun x => !p x)).length = D := by rw [← leftN_all]; exact HDD.out
        rw [e2] at h7
        have h8 := HX2.out
        rw [List.take_length] at h8
        refine ⟨⟨_, rfl, by rw [e3]; exact h7, rfl⟩, ⟨vo2, ?_⟩, ?_⟩
        · exact OV.foot (F := fun j => j = rb) h8 (foot_mids (F := fun j => j = rb) rfl _ _ (Foot.refl _ _)) (by rintro i rfl; exact hrb)
        · exact foot_mids (.inl rfl) _ _ HF2.out
  · have HX1 := Lib.hid hox1
    have HO1 := Lib.hid (HU.out hx1)
    have HF1 : Hid (Foot (fun j => (Value.slice A L.length cp).ownBlock = some j ∨ h1 ≤ j) w w1) := Foot.mono (F := fun j => h1 ≤ j) ⟨hx1.os, hx1.tape, hx1.output, hx1.size, fun i _ hn => hx1.block i (by omega)⟩ (fun _ h => .inr h)
    have hE := left_none hno
    have hTN := took_none hno
    clear hox1 HU hx1 hno HI
    go_wp2_with fail
    go_ret
    rw [hE, hTN]
    exact ⟨⟨_, rfl, HO1.out, rfl⟩, ⟨_, HX1.out⟩, HF1.out⟩

end Qu
end Go.Proofs.Ytinnpeonokdljaa
