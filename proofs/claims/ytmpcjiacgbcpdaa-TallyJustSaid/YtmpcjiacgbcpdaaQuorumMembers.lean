/- What a set's members are: package quorum's iterator over a set's bits, and Members and Enough, which use it. -/
import Derived.Test.YtmpcjiacgbcpdaaQuorumWalks
import Derived.RangeFuncBox
import Derived.RangeFuncLeaves
import Derived.Shelf.Abstract
import Derived.WalkKit
import Derived.OwnWalkIn
import Derived.TacticsInMore
import Derived.LoopNIn
import Derived.LoopIn
import Derived.Maps.AppendAt
import Derived.Lib.Hide
namespace Go.Proofs.Ytmpcjiacgbcpdaa
open Go.RowKit Go.Shelf

attribute [local go_sem] Oper.semAt_some

namespace Qm

theorem low_and (a : Nat) (h0 : 0 < a) (ha : a < 256) : bits .and .u8 (a : Int) ((a : Int) - 1) = ((lowOff a : Nat) : Int) := by
  have e : ((a : Int) - 1) = ((a - 1 : Nat) : Int) := by omega
  rw [e]
  exact u8_and_nat a (a - 1) ha (by omega)

set_option maxRecDepth 100000 in
set_option maxHeartbeats 1000000 in
theorem all1_in (n : Nat) (hn : 1 ≤ n) (l Bn n₀ : Nat) (s : Nat) (hs : s < 256) (J Jx : List Nat → World → Prop)
    (hY : ∀ pre x W, J pre W → pre.length < (bitsOf s).length → YieldAt Fence.wide (n - 1) Try.prog l #[.int .i64 (x : Nat)] W fun e W' =>
      (e = .returned (.bool true) ∧ J (pre ++ [x]) W' ∧ Below n₀ W W') ∨ (e = .returned (.bool false) ∧ Jx (pre ++ [x]) W'))
    (W : World) (hBn : W.cell? ⟨Bn, 0, none⟩ = some (.int .u8 s)) (h0 : J [] W) :
    CallsIn Fence.wide n Try.prog 40 #[.func (.yield l) #[] #[], .pointer (some ⟨Bn, 0, none⟩)] W fun e W' => (∃ v, e = .returned v) ∧
      ((∃ ys, ys = bitsOf s ∧ J ys W') ∨ (∃ pre, pre <+: bitsOf s ∧ Jx pre W')) := by
  refine callsIn_of_wp Try.func40 rfl trivial ?_ rfl
  simp only [Try.ntmps40, List.size_toArray, List.length_cons, List.length_nil, Nat.reduceAdd, Nat.reduceSub, Array.replicate_succ, Array.replicate_zero, List.push_toArray, List.append_toArray, List.nil_append, List.cons_append]
  gi_wp2
  gi_loopw [3] (fun p wr => ∃ (pre : List Nat) (a : Nat), p = .int .u8 a ∧ a < 256 ∧ bitsOf s = pre ++ bitsOf a ∧ J pre wr)
    (fun p _ => (intOf p).toNat)
  case atStart =>
    exact ⟨[], s, rfl, hs, rfl, h0⟩
  case round =>
    obtain ⟨pre, a, rfl, ha, hx, hJs⟩ := hrel
    have Hx := Lib.hid hx; clear hx
    by_cases h : a = 0
    · subst h
      gi_wp2
      go_end0
      exact ⟨⟨_, rfl⟩, .inl ⟨pre, by rw [Hx.out, bits_zero, List.append_nil], hJs⟩⟩
    · have hstep := bits_step ⟨a, ha⟩ (by simp; omega)
      simp only at hstep
      obtain ⟨hb, hlt⟩ := hstep
      have Hb := Lib.hid hb; clear hb
      have Hl := Lib.hid (low_and a (by omega) ha)
      obtain ⟨fn, tmps, assign, body, hy, hR⟩ := hY pre (tz8 a) wr hJs (by rw [Hx.out, Hb.out]; simp)
      have hpos : 0 < a := by omega
      clear h
      gi_wp2_with (refine ⟨trivial, ?_⟩; gi_at_call 41; refine (callsIn_wide.2 (tz_any _ ha _)).mono ?_; rintro e w' ⟨rfl, rfl⟩)
      refine hR.mono ?_
      rintro e W3 (⟨rfl, hJ3, hk3⟩ | ⟨rfl, hJx3⟩)
      · gi_wp2
        go_roundw
        case rel => exact ⟨pre ++ [tz8 a], lowOff a, congrArg (Value.int IntKind.u8) Hl.out, by omega, by rw [Hx.out, Hb.out]; simp, hJ3⟩
        case measure =>
          simp only [Hl.out]
          simp [intOf]
          omega
      · gi_wp2
        refine bodyPost_ret (results_none rfl _ _ _) rfl ?_
        exact ⟨⟨_, rfl⟩, .inr ⟨pre ++ [tz8 a], ⟨bitsOf (lowOff a), by rw [Hx.out, Hb.out]; simp⟩, hJx3⟩⟩

set_option maxHeartbeats 1000000 in
theorem all_in (n : Nat) (s : Nat) (w : World) :
    CallsIn Fence.wide n Try.prog 38 #[.int .u8 s] w fun e w' => e = .returned (.func (.func 40) #[] #[.pointer (some ⟨w.heap.size, 0, none⟩)]) ∧ w' = w.alloc (.cells #[.int .u8 s] 45) := by
  refine callsIn_of_wp Try.func38 rfl trivial ?_ rfl
  simp only [Try.ntmps38, List.size_toArray, List.length_cons, List.length_nil, Nat.reduceAdd, Nat.reduceSub, Array.replicate_succ, Array.replicate_zero, List.push_toArray, List.append_toArray, List.nil_append, List.cons_append]
  gi_wp2
  go_ret
  exact ⟨rfl, rfl⟩

theorem all_stops (n : Nat) (hn : 1 ≤ n) (Bn n₀ : Nat) (s : Nat) (hs : s < 256) (w : World) (hBn : Bn < w.heap.size)
    (hc : w.cell? ⟨Bn, 0, none⟩ = some (.int .u8 s)) :
    SeqStopsK Fence.wide n Try.prog 40 #[.pointer (some ⟨Bn, 0, none⟩)] (fun x : Nat => #[Value.int .i64 x]) (Below n₀) (fun ys => ys = bitsOf s) (fun pre => pre <+: bitsOf s) (bitsOf s).length w := fun l J Jx W hW _ _ hY h0 =>
  all1_in n hn l Bn n₀ s hs J Jx hY W ((hW.cell (p := ⟨Bn, 0, none⟩) hBn).trans hc) h0

theorem info_int : (Try.prog.info? 3).map (fun i => (i.zero, i.size, i.bytes)) = some (some (.int .i64 0), 1, 8) := by kernel_rfl

/-- The value v is a slice that owns the numbers xs, in blocks from B on; nil where there is none. -/
def OwnsInts (w : World) (B : Nat) (v : Value) (xs : List Nat) : Prop :=
  w.ownsRow B 3 1 v xs.length (xs.map fun x => Value.int .i64 (x : Nat)) ∧ (v = .slice none 0 0 ↔ xs = [])

set_option maxRecDepth 100000 in
set_option maxHeartbeats 2000000 in
theorem members_any (s : Nat) (hs : s < 256) (k : Int) (w : World) :
    Calls Try.prog 25 #[.int .u8 s, .int .i64 k] w fun e W' => ∃ v, e = .returned v ∧ OwnsInts W' w.heap.size v (membersN s k) ∧ Below w.heap.size w W' := by
  unfold membersN
  refine (callsIn_wide (n := 3)).1 ?_
  have hb := belowN_lt hs k
  have hlen := bits_len (belowN s k)
  generalize hm : belowN s k = m at *
  obtain ⟨i0, hi, hz0, hz1, hz2⟩ := info_parts info_int
  refine callsIn_of_wp_marks Try.func25 rfl trivial ?_ rfl
  simp only [Try.ntmps25, List.size_toArray, List.length_cons, List.length_nil, Nat.reduceAdd, Nat.reduceSub, Array.replicate_succ, Array.replicate_zero, List.push_toArray, List.append_toArray, List.nil_append, List.cons_append]
  gi_wp2_with (first
    | (refine ⟨trivial, ?_⟩; gi_at_call 37; refine (callsIn_wide.2 (below_any _ hs _ _)).mono ?_; rintro e w' ⟨rfl, rfl⟩)
    | (refine ⟨trivial, ?_⟩; gi_at_call 38; refine (all_in _ _ _).mono ?_; rintro e w' ⟨rfl, rfl⟩))
  have bO := Boxed.new w 51 (.slice none 0 0)
  have bN := Boxed.new (w.alloc (.cells #[.slice none 0 0] 51)) 45 (.int .u8 m)
  rw [World.size_alloc] at bN
  have hB0 : Below w.heap.size w ((w.alloc (.cells #[.slice none 0 0] 51)).alloc (.cells #[.int .u8 m] 45)) := ((Below.refl _ w).alloc (Nat.le_refl _) _).alloc (by simp) _
  refine wpIn_rangeFunc_ownG rfl (by omega) (gf := 40) (lb := #[.pointer (some ⟨w.heap.size + 1, 0, none⟩)]) rfl trivial (enters_of Try.func40 (by kernel_rfl) rfl)
    (all_stops 2 (by omega) (w.heap.size + 1) w.heap.size m hb _ (by simp) bN.cell) belowK_t (belowK_b (by simp; omega)) (Below.refl _ _) (fun _ => rfl)
    (fun pre W => (∃ v, Boxed W w.heap.size 51 v ∧ W.ownsRow w.heap.size 3 1 v pre.length (pre.map fun x => Value.int .i64 (x : Nat)) ∧ (v = .slice none 0 0 ↔ pre = [])) ∧ Below w.heap.size w W)
    (fun _ _ _ => False)
    (OwnFrom.and (Own.from (holdsRow_own w.heap.size w.heap.size 51 3 1 (fun pre => pre.length) (fun pre => pre.map fun x => Value.int .i64 (x : Nat)) (fun pre v => v = .slice none 0 0 ↔ pre = [])) _) (ownFrom_below (Nat.le_refl _) (by simp; omega)))
    (fun _ _ _ _ _ hs _ _ => hs)
    ⟨⟨_, bO.alloc _, World.ownsRow_nil _ _ _ _, by simp⟩, hB0⟩
    (fun x => { tmps := #[.int .u8 s, .int .i64 k, undef, undef, .slice none 0 0, .pointer (some ⟨w.heap.size, 0, none⟩), .int .i64 x, .int .u8 s, .int .i64 k, .int .u8 m, .func (.func 40) #[] #[.pointer (some ⟨w.heap.size + 1, 0, none⟩)], .int .i64 x, undef, undef, undef, undef, undef], defers := [] }) ?assign ?body ?done ?stop
  case assign =>
    intro l x W K hK
    gi_wp2
    exact hK
  case body =>
    rintro l pre x W ⟨⟨v, hv, hrow, hnil⟩, hB⟩ hlt
    have hc := hv.cell
    gi_wp2_with (gi_at_builtin; refine wpListIn_append_own _ rfl _ _ 51 rfl w.heap.size 3 i0 (.int .i64 0) 1 8 Try.underlying51 hi hz0 hz1 hz2 rfl (by decide) _ _ _ rfl (hrow.alloc _) ⟨W.heap.size, 0, none⟩ 1 1 [.int .i64 (x : Nat)] rfl rfl (cell_one_new _ _ _) (by simp [Value.oneCell']) (by unfold maxLen; omega) (by omega) (by have := hB.size; simp; omega) ?_; intro v' w1 hown' hgrow _; obtain ⟨g', cap', rfl⟩ := ownsRow_succ hown'; obtain ⟨hv1, hv2, hr2, hk2, hb2⟩ := hv.appended (by decide) hrow hB.size (Nat.le_refl _) hown' hgrow; have hc1 := hv1.cell; have hf1 := hv1.frozen)
    exact ⟨hk2.from _, hb2, ⟨_, hv2, by simpa using hr2, by simp⟩, hB.trans hb2⟩
  case done =>
    rintro D ys W hD rfl ⟨⟨v, hv, hrow, hnil⟩, hB⟩ hK
    have hc := hv.cell
    gi_wp2
    refine ⟨by simp, .inl ⟨_, _, rfl, run_takeDeferred hK, ?_⟩⟩
    exact ⟨_, results_tmp rfl _ _ _, v, rfl, ⟨ownsRow_putObj hrow _ hK rfl, hnil⟩, hB.trans (belowK_b (w := w) (Nat.le_refl _) W D _ _ (by simp at hD; omega) hK rfl rfl)⟩
  case stop =>
    rintro D c pre W _ _ h _
    exact h.elim

set_option maxHeartbeats 400000 in
theorem enough_any (s : Nat) (hs : s < 256) (n : Int) (w : World) :
    Calls Try.prog 24 #[.int .u8 s, .int .i64 n] w fun e w' => e = .returned (.bool (enoughB s n)) ∧ w = w' := by
  have hb := belowN_lt hs n
  have hm := most_le n
  have hE : Hid (enoughB s n = (decide (0 < mostN n) && decide (mostN n ≤ (bitsOf (belowN s n)).length))) := rfl
  go_enter Try.func24, Try.ntmps24
  by_cases h0 : 0 < mostN n
  all_goals
    go_wp2_with (first
      | (go_at_call 29; refine (most_any _ _).mono ?_; rintro e w' ⟨rfl, rfl⟩)
      | (go_at_call 37; refine (below_any _ hs _ _).mono ?_; rintro e w' ⟨rfl, rfl⟩)
      | (go_at_call 36; refine (ones_any _ hb _).mono ?_; rintro e w' ⟨rfl, rfl⟩))
    go_ret
    refine ⟨?_, rfl⟩
    rw [hE.out]
    simp [h0]

end Qm
end Go.Proofs.Ytmpcjiacgbcpdaa
