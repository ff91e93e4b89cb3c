/- maps.DeleteFunc at a tally's map, and Drop. -/
import Derived.Test.YtmpcjiacgbcpdaaTallyWalks
import Derived.Lib.SlMapFilter
import Derived.Deep.LoopGhost
set_option linter.unusedSimpArgs false
set_option linter.unusedVariables false
namespace Go.Proofs.Ytmpcjiacgbcpdaa
open Go.RowKit Go.Maps
open Qm

namespace Ta

/-- What is struck: keys up to i. -/
def pdI (i : Int) : Lit → DataW Unit → Bool
  | .int _ x, _ => decide (x ≤ i)
  | _, _ => false

open Go.WideElems (Fit rd rg pl rd_key rd_val rg_of other_key) in
theorem own_entries {w : World} {b n : Nat} {D : DataW Unit} (h : w.ownsMap Try.prog 3 (plainElem Try.prog 45) b n D) :
    ∃ es, D = .map es ∧ es.Pairwise (fun p q => p.1 ≠ q.1) ∧ ∀ p ∈ es, ∃ x : Int, p.1 = .int .i64 x ∧ inI x := by
  obtain ⟨es, clock, _, F, _, rfl⟩ := h
  refine ⟨_, rfl, ((WideShapes.sorted_perm _).pairwise_iff (fun {_ _} hne => Ne.symm hne)).2 (Maps.fit_apart keyed F), fun p hp => ?_⟩
  obtain ⟨x, hx, rfl⟩ := List.mem_map.1 (mem_sorted.1 hp)
  obtain ⟨y, hy⟩ := F.reads x hx
  rw [rg_of hy]
  obtain ⟨v, _, hv, hw⟩ := Maps.keyOf_int_inv Try.underlying3 (rd_key hy)
  simp only [Lit.wf, Bool.and_eq_true, decide_eq_true_eq] at hw
  exact ⟨v, hv, hw⟩
theorem has_iff {es : List (Lit × DataW Unit)} {i : Int} : Maps.has (DataW.map es) (.int .i64 i) = true ↔ ∃ d, (Lit.int .i64 i, d) ∈ es := by
  constructor
  · intro h
    obtain ⟨p, hp, hk⟩ := List.any_eq_true.1 h
    have := WideAt.sameKey_eq hk
    obtain ⟨a, d⟩ := p
    simp only at this
    subst this
    exact ⟨d, hp⟩
  · rintro ⟨d, hd⟩
    exact List.any_eq_true.2 ⟨_, hd, WideAt.sameKey_self trivial⟩
theorem look_some_key {R : Rows} {x : Int} : (look R x).isSome = true ↔ x ∈ keys R := by
  constructor
  · intro h
    apply Classical.byContradiction
    intro hn
    rw [look_none.2 hn] at h
    cases h
  · intro h
    cases hl : look R x with
    | none => exact absurd h (look_none.1 hl)
    | some y => rfl
def litInt : Lit → Int
  | .int _ x => x
  | _ => 0
theorem keys_drop {R : Rows} {i x : Int} : x ∈ keys (drop R i) ↔ x ∈ keys R ∧ i < x := by
  rw [← look_some_key, ← look_some_key, drop_look]
  by_cases h : i < x
  · rw [if_pos h]; exact ⟨fun k => ⟨k, h⟩, fun k => k.1⟩
  · rw [if_neg h]; exact ⟨fun k => (by cases k), fun k => absurd k.2 h⟩

/-- The map from which slots up to i are struck. -/
theorem dropped_at {w w' : World} {b n : Nat} {R : Rows} (hR : Ok R) {i : Int} {D : DataW Unit} (ho : w.ownsMap Try.prog 3 (plainElem Try.prog 45) b n D)
    (ht : Maps.Tidy D) (hs : Maps.size D = R.length)
    (hM : ∀ i, inI i → (∀ x, look R i = some x → x < 256 ∧ Maps.has D (.int .i64 i) = true ∧ ∀ z, D.atKey (.int .i64 i) z = .lit (.int .u8 (x : Int))) ∧ (look R i = none → Maps.has D (.int .i64 i) = false))
    (ho' : w'.ownsMap Try.prog 3 (plainElem Try.prog 45) b n (Lib.deleteFuncD (pdI i) D)) : MapAt w' b (look (drop R i)) (drop R i).length := by
  obtain ⟨es, rfl, hap, hks⟩ := own_entries ho
  have hmem : ∀ x : Int, inI x → ((∃ d, (Lit.int .i64 x, d) ∈ es) ↔ x ∈ keys R) := by
    intro x hx
    rw [← has_iff, ← look_some_key]
    cases hl : look R x with
    | none => rw [(hM x hx).2 hl]; simp
    | some y => rw [((hM x hx).1 y hl).2.1]; simp
  have hsz : (es.filter fun p => !pdI i p.1 p.2).length = (drop R i).length := by
    have e1 : ((es.filter fun p => !pdI i p.1 p.2).map fun p => litInt p.1).length = (keys (drop R i)).length := by
      refine len_same ?_ (drop_ok hR i).1 fun x => ?_
      · unfold List.Nodup
        rw [List.pairwise_map]
        refine List.Pairwise.imp_of_mem ?_ (hap.filter _)
        intro p q hp hq hne e
        obtain ⟨x, hx, _⟩ := hks p (List.mem_filter.1 hp).1
        obtain ⟨y, hy, _⟩ := hks q (List.mem_filter.1 hq).1
        rw [hx, hy] at e hne
        simp only [litInt] at e
        exact hne (by rw [e])
      · rw [keys_drop]
        constructor
        · intro h
          obtain ⟨p, hp, he⟩ := List.mem_map.1 h
          obtain ⟨hp1, hp2⟩ := List.mem_filter.1 hp
          obtain ⟨y, hy, hin⟩ := hks p hp1
          obtain ⟨a, d⟩ := p
          simp only at hy
          subst hy
          simp only [litInt] at he
          subst he
          refine ⟨(hmem y hin).1 ⟨d, hp1⟩, ?_⟩
          simp only [pdI, Bool.not_eq_true', decide_eq_false_iff_not] at hp2
          omega
        · rintro ⟨h1, h2⟩
          obtain ⟨y, hy⟩ := Option.isSome_iff_exists.1 (look_some_key.2 h1)
          have hin : inI x := by have := ok_in hR (i := x) (by rw [hy]; rfl); exact ⟨by omega, by omega⟩
          obtain ⟨d, hd⟩ := (hmem x hin).2 h1
          refine List.mem_map.2 ⟨(.int .i64 x, d), List.mem_filter.2 ⟨hd, ?_⟩, rfl⟩
          simp only [pdI, Bool.not_eq_true', decide_eq_false_iff_not]
          omega
    simpa [keys] using e1
  refine ⟨_, by rw [← hsz]; exact own_tight ho', ⟨_, rfl, hap.filter _⟩, hsz, fun j hj => ?_⟩
  rw [drop_look]
  by_cases hij : i < j
  · rw [if_pos hij]
    refine ⟨fun x hx => ?_, fun hn => ?_⟩
    · obtain ⟨h1, h2, h3⟩ := (hM j hj).1 x hx
      obtain ⟨d, hd⟩ := has_iff.1 h2
      have hd2 : d = .lit (.int .u8 (x : Int)) := by rw [← h3 .nil]; exact (WideAt.atKey_mem .nil (show WideAt.IsKeyLit (Lit.int .i64 j) from trivial) hap hd).symm
      have hf : (Lit.int .i64 j, d) ∈ es.filter fun p => !pdI i p.1 p.2 := List.mem_filter.2 ⟨hd, by simp only [pdI, Bool.not_eq_true', decide_eq_false_iff_not]; omega⟩
      exact ⟨h1, has_iff.2 ⟨d, hf⟩, fun z => by rw [← hd2]; exact WideAt.atKey_mem z (show WideAt.IsKeyLit (Lit.int .i64 j) from trivial) (hap.filter _) hf⟩
    · have h0 := (hM j hj).2 hn
      cases hq : Maps.has (DataW.map (es.filter fun p => !pdI i p.1 p.2)) (.int .i64 j) with
      | false => rfl
      | true =>
        obtain ⟨d, hd⟩ := has_iff.1 hq
        rw [has_iff.2 ⟨d, (List.mem_filter.1 hd).1⟩] at h0
        cases h0
  · rw [if_neg hij]
    refine ⟨fun x hx => (by cases hx), fun _ => ?_⟩
    cases hq : Maps.has (DataW.map (es.filter fun p => !pdI i p.1 p.2)) (.int .i64 j) with
    | false => rfl
    | true =>
      obtain ⟨d, hd⟩ := has_iff.1 hq
      have := (List.mem_filter.1 hd).2
      simp only [pdI, Bool.not_eq_true', decide_eq_false_iff_not] at this
      omega

set_option maxHeartbeats 4000000 in
set_option maxRecDepth 100000 in
/-- maps.DeleteFunc with Drop's closure. -/
theorem deleteFunc_any (c : Nat) (i : Int) (b n : Nat) (D : DataW Unit) (w : World) (hown : w.ownsMap Try.prog 3 (plainElem Try.prog 45) b n D) (hc : Whole w c 3 [.int .i64 i]) (hcb : c ≠ b) :
    Calls Try.prog 27 #[.map (some b), .func (.func 28) #[] #[.pointer (some ⟨c, 0, none⟩)]] w
      fun e w' => e = .returned (.tuple #[]) ∧ w'.ownsMap Try.prog 3 (plainElem Try.prog 45) b n (Lib.deleteFuncD (pdI i) D) ∧ w.grownBy w' (some b) := by
  obtain ⟨es0, rfl, hap, hkeys⟩ := hown.entries keyed
  have HC := Lib.hid hc
  clear hc
  go_enter Try.func27, Try.ntmps27
  go_wp2_with (first
    | (at_range; refine wpList_range_own _ rfl _ 23 rfl 3 45 keyed Try.underlying23 (plainElem Try.prog 45) b n _ rfl hown ?_; intro w0 hrg0 hg0 hs0)
    | go_in)
  go_frame
  go_loopw [8] (fun _ wr => ∃ (left : Lit → Bool) (cnt : Nat), wr.ranges Try.prog 3 (plainElem Try.prog 45) b w.heap.size n (Fk (pdI i) es0 left) left cnt ∧ w.grownBy wr (some b))
    (fun _ wr => wr.rangeLeft b w.heap.size)
  case atStart => exact ⟨_, _, by rw [Fk_start hkeys]; exact hrg0, hg0.but _⟩
  case round =>
    obtain ⟨left, cnt, hrg, hgw⟩ := hrel
    go_wp2_with (first
      | (at_next; refine wpList_next_ranges_ii _ rfl _ rfl 3 45 .i64 .u8 keyed Try.underlying3 Try.underlying45 b w.heap.size n _ _ _ rfl hrg ?_ ?_)
      | go_in)
    · intro _ hl0
      go_wp2
      go_end0
      exact ⟨rfl, by rw [← Fk_end hl0]; exact hrg.owns, hgw⟩
    · intro x y w1 cnt1 hwx hwy hlx hat hrg1 hlt hg1 hs1 hen
      have hgw1 := hgw.andThen hg1 (fun j hj => by cases hj; exact Or.inl (Nat.le_refl _))
      have hkey : keyOf Try.prog 3 (.int .i64 x) = some (.int .i64 x) := keyOf_int_mk Try.underlying3 hwx
      have H_c : Whole w1 c 3 [.int .i64 i] := (hgw1.block c HC.out.lt (fun e => hcb (by injection e))).trans HC.out
      have c_c := H_c.cell 0
      have f_c := H_c.free 0
      have HC1 := Lib.hid H_c
      clear H_c
      by_cases hxi : x ≤ i
      · have hp : pdI i (.int .i64 x) (.lit (.int .u8 y)) = true := decide_eq_true hxi
        have HXI := Lib.hid hxi
        clear hxi
        have hxi : decide (x ≤ i) = true := decide_eq_true HXI.out
        have HLX := Lib.hid hlx
        clear hlx
        go_wp2_with (first
          | (at_delete; refine wpList_delete_ranges _ rfl _ _ 23 3 rfl 45 keyed Try.underlying23 (plainElem Try.prog 45) b w.heap.size n _ _ _ rfl hrg1 _ _ rfl hkey ?_; intro w3 cnt3 hrg3 hle hturn; go_frame)
          | go_in)
        rw [strike_twice] at hrg3
        go_roundw
        case rel => exact ⟨_, cnt3, by rw [← Fk_struck hap (keyed.key hkey) HLX.out hp hat]; exact hrg3, hgw1.andThen hturn.grown (fun j hj => by cases hj; exact Or.inr rfl)⟩
        case measure => rw [hrg3.left_eq, hrg.left_eq]; omega
      · have hp : pdI i (.int .i64 x) (.lit (.int .u8 y)) = false := decide_eq_false hxi
        have HXI := Lib.hid hxi
        clear hxi
        have hxi : decide (x ≤ i) = false := decide_eq_false HXI.out
        have HLX := Lib.hid hlx
        clear hlx
        go_wp2_with go_in
        go_roundw
        case rel => exact ⟨_, cnt1, by rw [← Fk_stays hap (keyed.key hkey) HLX.out hp hat]; exact hrg1, hgw1⟩
        case measure => rw [hrg1.left_eq, hrg.left_eq]; exact hlt

set_option maxHeartbeats 1000000 in
theorem drop_any (g b : Nat) (n : Int) (hn : n ≠ 0) (R : Rows) (hR : Ok R) (i : Int) (w : World) (ht : TallyAt w g b n R) :
    Calls Try.prog 12 #[.pointer (some ⟨g, 0, none⟩), .int .i64 i] w fun e w' => e = .returned (.tuple #[]) ∧ TallyAt w' g b n (drop R i) ∧ Only b w w' := by
  obtain ⟨hw, hmp, hne⟩ := ht
  have hlt := hmp.lt
  obtain ⟨D, ho, hti, hs, hM⟩ := hmp
  have N := Lib.hid (none_false g n hn _ _ (hw.alloc (.cells #[.int .i64 i] 3)))
  have H_tl := hw.alloc (.cells #[.int .i64 i] 3)
  have DF := Lib.hid (deleteFunc_any w.heap.size i b _ D _ (ho.alloc (.cells #[.int .i64 i] 3)) (Whole.new w 3 [.int .i64 i]) (by omega))
  have HM := Lib.hid (And.intro ho (And.intro hti (And.intro hs hM)))
  have HW := Lib.hid (And.intro hw (And.intro hne hR))
  have hmf : ∀ (fn : Fn) (first cap : Array Value) (w : World), (Instr.makeFunc fn first cap).run Try.prog w = .ok (.func fn first cap) w := fun _ _ _ _ => rfl
  have c_tl := H_tl.cell 1
  have f_tl := H_tl.free 1
  clear ho hti hs hM hw H_tl hn hR hne
  go_enter Try.func12, Try.ntmps12
  go_wp2_with fail
  refine N.out.mono ?_
  rintro e u ⟨rfl, rfl⟩
  go_wp2_with fail
  refine DF.out.mono ?_
  rintro e u ⟨rfl, hown, hg⟩
  have HG := Lib.hid hg
  have HO := Lib.hid hown
  clear hown hg
  go_wp2_with fail
  go_end0
  obtain ⟨ho, hti, hs, hM⟩ := HM.out
  obtain ⟨hw, hne, hR⟩ := HW.out
  have ho2 : Only b w u := (Only.alloc (Only.refl b w) _).trans HG.out
  exact ⟨rfl, ⟨ho2.whole hw hne, dropped_at hR ho hti hs hM HO.out, hne⟩, ho2⟩

set_option maxHeartbeats 400000 in
theorem drop_nil (i : Int) (w : World) : Calls Try.prog 12 #[.pointer none, .int .i64 i] w fun e w' => e = .returned (.tuple #[]) ∧ Below w.heap.size w w' := by
  have N := Lib.hid (none_nil (w.alloc (.cells #[.int .i64 i] 3)))
  go_enter Try.func12, Try.ntmps12
  go_wp2_with fail
  refine N.out.mono ?_
  rintro e u ⟨rfl, rfl⟩
  go_wp2_with fail
  go_end0
  exact ⟨rfl, (Below.refl _ _).alloc (Nat.le_refl _) _⟩
set_option maxHeartbeats 400000 in
theorem drop_zero (g : Nat) (m : Value) (i : Int) (w : World) (h : Whole w g 25 [.int .i64 0, m]) : Calls Try.prog 12 #[.pointer (some ⟨g, 0, none⟩), .int .i64 i] w fun e w' => e = .returned (.tuple #[]) ∧ Below w.heap.size w w' := by
  have N := Lib.hid (none_zero g m _ (h.alloc (.cells #[.int .i64 i] 3)))
  clear h
  go_enter Try.func12, Try.ntmps12
  go_wp2_with fail
  refine N.out.mono ?_
  rintro e u ⟨rfl, rfl⟩
  go_wp2_with fail
  go_end0
  exact ⟨rfl, (Below.refl _ _).alloc (Nat.le_refl _) _⟩
set_option maxHeartbeats 400000 in
theorem note_nil (i r : Int) (w : World) : Calls Try.prog 9 #[.pointer none, .int .i64 i, .int .i64 r] w fun e w' => e = .returned (.int .i64 1) ∧ w = w' := by
  have N := Lib.hid (none_nil w)
  go_enter Try.func9, Try.ntmps9
  go_wp2_with fail
  refine N.out.mono ?_
  rintro e u ⟨rfl, rfl⟩
  go_wp2_with fail
  go_ret
  exact ⟨rfl, rfl⟩
set_option maxHeartbeats 400000 in
theorem note_zero (g : Nat) (m : Value) (i r : Int) (w : World) (h : Whole w g 25 [.int .i64 0, m]) : Calls Try.prog 9 #[.pointer (some ⟨g, 0, none⟩), .int .i64 i, .int .i64 r] w fun e w' => e = .returned (.int .i64 1) ∧ w = w' := by
  have N := Lib.hid (none_zero g m w h)
  clear h
  go_enter Try.func9, Try.ntmps9
  go_wp2_with fail
  refine N.out.mono ?_
  rintro e u ⟨rfl, rfl⟩
  go_wp2_with fail
  go_ret
  exact ⟨rfl, rfl⟩
set_option maxHeartbeats 400000 in
theorem count_nil (i : Int) (w : World) : Calls Try.prog 10 #[.pointer none, .int .i64 i] w fun e w' => e = .returned (.int .i64 0) ∧ w = w' := by
  have N := Lib.hid (none_nil w)
  go_enter Try.func10, Try.ntmps10
  go_wp2_with fail
  refine N.out.mono ?_
  rintro e u ⟨rfl, rfl⟩
  go_wp2_with fail
  go_ret
  exact ⟨rfl, rfl⟩
set_option maxHeartbeats 400000 in
theorem count_zero (g : Nat) (m : Value) (i : Int) (w : World) (h : Whole w g 25 [.int .i64 0, m]) : Calls Try.prog 10 #[.pointer (some ⟨g, 0, none⟩), .int .i64 i] w fun e w' => e = .returned (.int .i64 0) ∧ w = w' := by
  have N := Lib.hid (none_zero g m w h)
  clear h
  go_enter Try.func10, Try.ntmps10
  go_wp2_with fail
  refine N.out.mono ?_
  rintro e u ⟨rfl, rfl⟩
  go_wp2_with fail
  go_ret
  exact ⟨rfl, rfl⟩
set_option maxHeartbeats 400000 in
theorem upto_nil (i : Int) (w : World) : Calls Try.prog 11 #[.pointer none, .int .i64 i] w fun e w' => e = .returned (.int .i64 i) ∧ w = w' := by
  have N := Lib.hid (none_nil w)
  go_enter Try.func11, Try.ntmps11
  go_wp2_with fail
  refine N.out.mono ?_
  rintro e u ⟨rfl, rfl⟩
  go_wp2_with fail
  go_ret
  exact ⟨rfl, rfl⟩
set_option maxHeartbeats 400000 in
theorem upto_zero (g : Nat) (m : Value) (i : Int) (w : World) (h : Whole w g 25 [.int .i64 0, m]) : Calls Try.prog 11 #[.pointer (some ⟨g, 0, none⟩), .int .i64 i] w fun e w' => e = .returned (.int .i64 i) ∧ w = w' := by
  have N := Lib.hid (none_zero g m w h)
  clear h
  go_enter Try.func11, Try.ntmps11
  go_wp2_with fail
  refine N.out.mono ?_
  rintro e u ⟨rfl, rfl⟩
  go_wp2_with fail
  go_ret
  exact ⟨rfl, rfl⟩

end Ta
end Go.Proofs.Ytmpcjiacgbcpdaa
