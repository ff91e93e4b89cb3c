/- What the disk's small functions return (package disk), function by function. -/
import Derived.Test.YtnjejffbcgchlaaDiskPlain
import Derived.Test.YtnjejffbcgchlaaRows
import Derived.WalkKit
import Derived.WalkSpells
import Derived.WalkLawsBesides
import Derived.StillTailTactics
import Derived.BigQuiet
import Derived.Deep.RegionLaw
set_option linter.unusedSimpArgs false
set_option linter.unusedVariables false
namespace Go.Proofs.Ytnjejffbcgchlaa
open Go.RowKit
namespace Di
theorem info_place : (Try.prog.info? 82).map (fun i => (i.zero, i.size, i.bytes)) = some (some (.agg (plC pl0).toArray), 129, 129) := by kernel_rfl
theorem info_write : (Try.prog.info? 76).map (fun i => (i.zero, i.size, i.bytes)) = some (some (.agg (wrC ⟨.all 0, 0⟩).toArray), 65, 72) := by kernel_rfl
theorem info_u8 : (Try.prog.info? 5).map (fun i => (i.zero, i.size, i.bytes)) = some (some (.int .u8 0), 1, 1) := by kernel_rfl
theorem info_bytes : (Try.prog.info? 74).map (fun i => (i.zero, i.size, i.bytes)) = some (some (.agg (secC (.all 0)).toArray), 64, 64) := by kernel_rfl

theorem wpList_boxAgg {P : Program} {ops : Array Oper} {rest : List Oper} {o : Oper} {a : Act} {w : World} {Q : Exit → Act → World → Prop} (hg : o.guard = none) (t : TypeId) (x : Operand) (ho : o.op = .box t x)
    (cs : List Value) (hx : a.eval x = .agg cs.toArray)
    (h : wpList P ops Q rest (a.put o.dst (.pointer (some ⟨w.heap.size, 0, none⟩))) (w.alloc (.cells cs.toArray t))) : wpList P ops Q (o :: rest) a w := by
  refine wpList_plain hg fun K hK => ?_
  unfold Oper.wp execOp
  simp only [ho, Sem.run_bind, Instr.box, newVar, newRow, run_newObj_alloc, Sem.run_pure, Result.andThen_ok, hx, Value.cells]
  exact hK _ _ h

set_option maxHeartbeats 400000 in
theorem own_is (s : Sec) (w : World) : Calls Try.prog 41 #[.agg (secC s).toArray] w fun e w' => ∃ v, e = .returned v ∧ w'.ownsRow w.heap.size 5 1 v 64 (secC s) ∧ Below w.heap.size w w' := by
  obtain ⟨i0, hi, hz0, hz1, hz2⟩ := info_parts info_u8
  have HW : Hid (Whole (w.alloc (.cells (secC s).toArray 74)) w.heap.size 74 (secC s)) := Whole.new _ _ _
  have HB := Lib.hid (be1 w (.cells (secC s).toArray 74))
  go_enter Try.func41, Try.ntmps41
  go_wp2_with (first
    | (with_reducible refine wpList_boxAgg rfl _ _ rfl (secC s) rfl ?_)
    | (at_builtin; refine wpList_append_foot _ rfl (.const (.slice none 0 0)) (.tmp 3) _ rfl w.heap.size 5 i0 _ 1 1 Try.underlying22 hi hz0 hz1 hz2 rfl (by decide) _ 0 [] rfl ⟨rfl, .inl ⟨rfl, rfl⟩⟩ (w.heap.size + 1) _ 64 (secC s) rfl (Row.blk HW.out (by simp) (by omega) (by decide)) (by rw [secC_len]) (secC_one s) (by decide) (by decide) (by simp) ?_; intro v1 w1 h1 h2 h3))
  go_ret
  exact ⟨_, rfl, by simpa using h1, HB.out.grown h2 (by simp) (fun k hk => by cases hk)⟩
set_option maxHeartbeats 400000 in
theorem size_is (b : Nat) (A : Option Addr) (n c : Nat) (w : World) (h : w.cell? ⟨b, 0, none⟩ = some (.slice A n c)) : Calls Try.prog 27 #[.pointer (some ⟨b, 0, none⟩)] w fun e w' => e = .returned (.int .i64 n) ∧ w = w' := by
  go_enter Try.func27, Try.ntmps27
  go_wp2_with fail
  go_ret
  exact ⟨rfl, rfl⟩
set_option maxHeartbeats 400000 in
theorem size_none (w : World) : Calls Try.prog 27 #[.pointer none] w fun e w' => e = .returned (.int .i64 0) ∧ w = w' := by
  go_enter Try.func27, Try.ntmps27
  go_wp2_with fail
  go_ret
  exact ⟨rfl, rfl⟩

theorem inn_at {d : Dk} {s : Int} (h : inn d s = true) : 0 ≤ s ∧ s < d.places.length := by
  simpa only [inn, Bool.and_eq_true, decide_eq_true_eq] using h
theorem inn_not {d : Dk} {s : Int} (h : inn d s = false) : s < 0 ∨ (0 ≤ s ∧ (d.places.length : Int) ≤ s) := by
  simp only [inn, Bool.and_eq_false_iff, decide_eq_false_iff_not] at h
  omega
set_option maxHeartbeats 1000000 in
theorem there_is (ss : List Int) (d : Dk) (hd : 0 < d.places.length) (b B : Nat) (A : Option Addr) (c : Nat) (x : Value) (w : World) (hw : w.cell? ⟨b, 0, none⟩ = some (.slice A d.places.length c)) (hr : Row w B x ss.length (ints ss)) :
    Calls Try.prog 36 #[.pointer (some ⟨b, 0, none⟩), x] w fun e w' => e = .returned (.int .i64 (thereE d ss)) ∧ w = w' := by
  have C := Lib.hid (size_is b A d.places.length c w hw)
  have hbd := hr.bound
  obtain ⟨X, cx, rfl, _, _⟩ := hr.slice
  have HR := Lib.hid hr
  have hne : ((d.places.length : Int) == 0) = false := by rw [beq_eq_false_iff_ne]; omega
  clear hr
  go_enter Try.func36, Try.ntmps36
  go_wp2_with fail
  refine C.out.mono ?_
  rintro e u ⟨rfl, rfl⟩
  go_wp2_with fail
  go_loopw [12] (fun i wr => ∃ k : Nat, k ≤ ss.length ∧ i = .int .i64 k ∧ (ss.take k).all (inn d) = true ∧ w = wr) (fun i _ => ss.length - (intOf i).toNat)
  case atStart => exact ⟨0, Nat.zero_le _, rfl, by simp, rfl⟩
  case round =>
    obtain ⟨k, hk, rfl, hall, rfl⟩ := hrel
    have HA := Lib.hid hall; clear hall
    by_cases hlt : k < ss.length
    · obtain ⟨b2, o2, rfl, hb2, hx2⟩ := HR.out.at_ (j := k) (by simp [ints]; omega)
      have hy := hx2 k (.int .i64 ss[k]) (by simp [ints, hlt])
      have hnext : (ss.take (k + 1)).all (inn d) = inn d ss[k] := by
        rw [List.take_succ_eq_append_getElem hlt, List.all_append, HA.out]; simp
      have HN := Lib.hid hnext; clear hnext hx2
      have hbad : inn d ss[k] = false → thereE d ss = 2 := fun h => by
        unfold thereE
        rw [if_neg]
        intro h'
        have := List.all_eq_true.1 h' ss[k] (List.getElem_mem hlt)
        rw [h] at this
        cases this
      have HBAD := Lib.hid hbad; clear hbad
      generalize ss[k] = s at *
      cases hin : inn d s
      · rcases inn_not hin with h1 | ⟨h1, h2⟩
        · have HH := Lib.hid hin; clear hin
          go_wp2_with fail
          go_ret
          exact ⟨(by rw [HBAD.out HH.out]; rfl), rfl⟩
        · have HH := Lib.hid hin; clear hin
          go_wp2_with fail
          go_ret
          exact ⟨(by rw [HBAD.out HH.out]; rfl), rfl⟩
      · obtain ⟨h1, h2⟩ := inn_at hin
        have HH := Lib.hid hin; clear hin
        go_wp2_with fail
        go_round
        · exact ⟨k + 1, by omega, by go_num, by rw [HN.out, HH.out], by trivial⟩
        · show ss.length - ((k : Int) + 1).toNat < ss.length - (k : Int).toNat; omega
    · have he : k = ss.length := by omega
      subst he
      have HE : Hid (thereE d ss = 0) := by
        have := HA.out
        rw [List.take_length] at this
        show thereE d ss = 0
        unfold thereE
        rw [if_pos this]
      go_wp2_with fail
      go_ret
      exact ⟨(by rw [HE.out]; rfl), rfl⟩

/-- The block of a disk, in memory. -/
def dkC (pv wv : Value) (d : Dk) : List Value := [pv, wv, .bool d.down, .bool d.dead, .int .i64 d.left]
/-- The disk, as things in memory. -/
def dI (base b : Nat) (pv wv : Value) (d : Dk) : List It :=
  [.box b 54 (dkC pv wv d), .row base 82 129 pv d.places.length (d.places.flatMap plC), .row base 76 65 wv d.waits.length (d.waits.flatMap wrC)]
theorem dI_pv {w0 u : World} {base b : Nat} {pv wv : Value} {d : Dk} {l : List It} (h : Sep w0 (dI base b pv wv d ++ l) u) (ho : 0 < d.places.length) : ∃ gb c, pv = .slice (some ⟨gb, 0, none⟩) d.places.length c := by
  obtain ⟨gb, c, hv, _⟩ := own_form (h.holds (.row base 82 129 pv d.places.length (d.places.flatMap plC)) (by simp [dI])) ho
  exact ⟨gb, c, hv⟩
theorem dI_box {w0 u : World} {base b : Nat} {pv wv : Value} {d : Dk} {l : List It} (h : Sep w0 (dI base b pv wv d ++ l) u) : Whole u b 54 (dkC pv wv d) :=
  h.holds (.box b 54 (dkC pv wv d)) (by simp [dI])
theorem dI_places {w0 u : World} {base b : Nat} {pv wv : Value} {d : Dk} {l : List It} (h : Sep w0 (dI base b pv wv d ++ l) u) : u.ownsRow base 82 129 pv d.places.length (d.places.flatMap plC) :=
  h.holds (.row base 82 129 pv d.places.length (d.places.flatMap plC)) (by simp [dI])
theorem dI_waits {w0 u : World} {base b : Nat} {pv wv : Value} {d : Dk} {l : List It} (h : Sep w0 (dI base b pv wv d ++ l) u) : u.ownsRow base 76 65 wv d.waits.length (d.waits.flatMap wrC) :=
  h.holds (.row base 76 65 wv d.waits.length (d.waits.flatMap wrC)) (by simp [dI])

set_option maxHeartbeats 1000000 in
theorem live_is (ss : List Int) (d : Dk) (ho : Ok d) (b B : Nat) (pv wv x : Value) {w0 : World} {base : Nat} {l : List It} (w : World) (hS : Sep w0 (dI base b pv wv d ++ l) w) (hr : Row w B x ss.length (ints ss)) :
    Calls Try.prog 33 #[.pointer (some ⟨b, 0, none⟩), x] w fun e w' => e = .returned (.int .i64 (liveE d ss)) ∧ w = w' := by
  obtain ⟨gb, c, rfl⟩ := dI_pv hS ho.some
  have hW := dI_box hS
  have c0 := hW.cell 0; have c2 := hW.cell 2; have c3 := hW.cell 3
  simp only [dkC, List.getElem?_cons_zero, List.getElem?_cons_succ] at c0 c2 c3
  have C := Lib.hid (size_is b _ _ _ w c0)
  have T := Lib.hid (there_is ss d ho.some b B _ _ x w c0 hr)
  obtain ⟨N, hN⟩ : ∃ N, d.places.length = N := ⟨_, rfl⟩
  have hpos : 0 < N := hN ▸ ho.some
  rw [hN] at c0 C
  obtain ⟨ps, L, dn, dd, lf⟩ := d
  dsimp only at c2 c3
  clear hN
  have hz : decide (0 < (N : Int)) = true := by rw [decide_eq_true_eq]; omega
  clear hS hr hW ho
  go_enter Try.func33, Try.ntmps33
  go_wp2_with fail
  cases dn
  · cases dd
    · refine C.out.mono ?_
      rintro e u ⟨rfl, rfl⟩
      go_wp2_with fail
      refine T.out.mono ?_
      rintro e u ⟨rfl, rfl⟩
      go_wp2_with fail
      go_ret
      exact ⟨rfl, rfl⟩
    · refine C.out.mono ?_
      rintro e u ⟨rfl, rfl⟩
      go_wp2_with fail
      go_ret
      exact ⟨rfl, rfl⟩
  · refine C.out.mono ?_
    rintro e u ⟨rfl, rfl⟩
    go_wp2_with fail
    go_ret
    exact ⟨by cases dd <;> rfl, rfl⟩

set_option maxHeartbeats 1000000 in
theorem spend_is (d : Dk) (ho : Ok d) (b : Nat) (pv wv : Value) {w0 : World} {base : Nat} {l : List It} (w : World) (hS : Sep w0 (dI base b pv wv d ++ l) w) :
    Calls Try.prog 34 #[.pointer (some ⟨b, 0, none⟩)] w fun e w' => e = .returned (.int .i64 (spendE d)) ∧ Sep w0 (dI base b pv wv (spendD d) ++ l) w' := by
  have hW := dI_box hS
  have c4 := hW.cell 4
  have f3 := hW.free 3; have f4 := hW.free 4; have c3 := hW.cell 3
  simp only [dkC, List.getElem?_cons_zero, List.getElem?_cons_succ] at c4 c3
  have h1 := ho.left
  have h2 := ho.few
  obtain ⟨ps, L, dn, dd, lf⟩ := d
  dsimp only at *
  have HS := Lib.hid hS
  clear hS hW ho
  go_enter Try.func34, Try.ntmps34
  by_cases e0 : lf = 0
  · subst e0
    go_wp2_with fail
    go_ret
    refine ⟨rfl, ?_⟩
    exact HS.out.set 3 (.bool true)
  · by_cases e1 : 0 < lf
    · have e0' : (lf == 0) = false := by simp [e0]
      have E0 := Lib.hid e0; clear e0
      go_wp2_with fail
      go_ret
      have e0 := E0.out
      refine ⟨by simp [spendE, e0], ?_⟩
      simp only [spendD, e0, e1, if_true, if_false, ite_true, ite_false]
      exact HS.out.set 4 _
    · have e0' : (lf == 0) = false := by simp [e0]
      have E0 := Lib.hid e0; clear e0
      go_wp2_with fail
      go_ret
      have e0 := E0.out
      refine ⟨by simp [spendE, e0], ?_⟩
      have e1' : ¬ 0 < lf := by omega
      simp only [spendD, e0, e1', if_false]
      exact HS.out
end Di
end Go.Proofs.Ytnjejffbcgchlaa
