/- Done, Ready, Clear and Waits of a queue that somebody made. -/
import Derived.Test.YtinnpeonokdljaaQueueDel
import Derived.Test.YtinnpeonokdljaaQuorumEnough
import Derived.BigQuiet
set_option linter.unusedSimpArgs false
set_option linter.unusedVariables false
namespace Go.Proofs.Ytinnpeonokdljaa
open Go.RowKit

namespace Qu
open Qm
theorem own_base {w : World} {b b' : Nat} {e : TypeId} {size : Nat} {v : Value} {n : Nat} {xs : List Value} (h : w.ownsRow b e size v n xs) (hb : b' ≤ b) : w.ownsRow b' e size v n xs := by
  refine ⟨h.1, h.2.imp id ?_⟩
  rintro ⟨g, cap, cur, h1, h2, h3⟩
  exact ⟨g, cap, cur, h1, Nat.le_trans hb h2, h3⟩
theorem drewN_below {B : Nat} {a w : World} (h : Below B a w) (k : Nat) : Below B a (w.drewN k) := below_drewN' h k

def doneB (m s : Int) (x : Wt) : Bool := decide (x.nonce = 0) && isB m s x
def readyB (n ap : Int) (x : Wt) : Bool := decide (0 < x.nonce) && enoughB x.set n && decide (x.index ≤ ap)

set_option maxHeartbeats 2000000 in
theorem done1_any (xm xs : Int) (xk : Nat) (xa xb xc : ByteArray) (xn xi : Int) (xt : Nat) (c1 c2 : Nat) (m s : Int) (u : World) (h1 : u.cell? ⟨c1, 0, none⟩ = some (.int .i64 m)) (h2 : u.cell? ⟨c2, 0, none⟩ = some (.int .i64 s)) :
    Calls Try.prog 37 #[.agg #[.int .i64 xm, .int .i64 xs, .int .u8 (xk : Nat), .string xa, .string xb, .string xc, .int .i64 xn, .int .i64 xi, .int .u8 (xt : Nat)], .pointer (some ⟨c1, 0, none⟩), .pointer (some ⟨c2, 0, none⟩)] u fun e w' => e = .returned (.bool (doneB m s ⟨⟨xm, xs, ⟨xk, xa, xb, xc⟩⟩, xn, xi, xt⟩)) ∧ Below u.heap.size u w' := by
  have hlt := World.block_lt_of_cell? u ⟨c1, 0, none⟩ h1
  have hlt2 := World.block_lt_of_cell? u ⟨c2, 0, none⟩ h2
  go_enter Try.func37, Try.ntmps37
  by_cases e0 : xn = 0
  · have e0' : (xn == 0) = true := by simp [e0]
    by_cases e1 : xm = m
    · by_cases e2 : xs = s
      · have e1' : (xm == m) = true := by simp [e1]
        have e2' : (xs == s) = true := by simp [e2]
        go_wp2_with fail
        go_ret
        exact ⟨ret_bool (by unfold doneB isB; simp [e0, e1, e2]), be1 _ _⟩
      · have e1' : (xm == m) = true := by simp [e1]
        have e2' : (xs == s) = false := by simp [e2]
        go_wp2_with fail
        go_ret
        exact ⟨ret_bool (by unfold doneB isB; simp [e0, e1, e2]), be1 _ _⟩
    · have e1' : (xm == m) = false := by simp [e1]
      go_wp2_with fail
      go_ret
      exact ⟨ret_bool (by unfold doneB isB; simp [e0, e1]), be1 _ _⟩
  · have e0' : (xn == 0) = false := by simp [e0]
    go_wp2_with fail
    go_ret
    exact ⟨ret_bool (by unfold doneB isB; simp [e0]), be1 _ _⟩

set_option maxHeartbeats 400000 in
theorem clear1_any (xm xs : Int) (xk : Nat) (xa xb xc : ByteArray) (xn xi : Int) (xt : Nat) (u : World) :
    Calls Try.prog 39 #[.agg #[.int .i64 xm, .int .i64 xs, .int .u8 (xk : Nat), .string xa, .string xb, .string xc, .int .i64 xn, .int .i64 xi, .int .u8 (xt : Nat)]] u fun e w' => e = .returned (.bool true) ∧ Below u.heap.size u w' := by
  go_enter Try.func39, Try.ntmps39
  go_wp2_with fail
  go_ret
  exact ⟨rfl, be1 _ _⟩

set_option maxRecDepth 100000 in
set_option maxHeartbeats 4000000 in
theorem ready1_any (xm xs : Int) (xk : Nat) (xa xb xc : ByteArray) (xn xi : Int) (xt : Nat) (ht : xt < 256) (c1 c2 g : Nat) (n ap : Int) (u : World) (h1 : u.cell? ⟨c1, 0, none⟩ = some (.pointer (some ⟨g, 0, none⟩))) (h2 : u.cell? ⟨c2, 0, none⟩ = some (.int .i64 ap)) (hn : u.cell? ⟨g, 0, none⟩ = some (.int .i64 n)) :
    Calls Try.prog 38 #[.agg #[.int .i64 xm, .int .i64 xs, .int .u8 (xk : Nat), .string xa, .string xb, .string xc, .int .i64 xn, .int .i64 xi, .int .u8 (xt : Nat)], .pointer (some ⟨c1, 0, none⟩), .pointer (some ⟨c2, 0, none⟩)] u fun e w' => e = .returned (.bool (readyB n ap ⟨⟨xm, xs, ⟨xk, xa, xb, xc⟩⟩, xn, xi, xt⟩)) ∧ Below u.heap.size u w' := by
  have hlt := World.block_lt_of_cell? u ⟨c1, 0, none⟩ h1
  have hlt2 := World.block_lt_of_cell? u ⟨c2, 0, none⟩ h2
  have hlt3 := World.block_lt_of_cell? u ⟨g, 0, none⟩ hn
  have HE := Lib.hid (enough_any xt ht n)
  have HR : Hid (readyB n ap ⟨⟨xm, xs, ⟨xk, xa, xb, xc⟩⟩, xn, xi, xt⟩ = (decide (0 < xn) && enoughB xt n && decide (xi ≤ ap))) := rfl
  go_enter Try.func38, Try.ntmps38
  rw [HR.out]
  by_cases e0 : 0 < xn
  · have e0' : decide (0 < xn) = true := by simp [e0]
    generalize enoughB xt n = b at HE ⊢
    cases b
    · go_wp2_with fail
      go_quiet (exact (HE.out _).mono (fun e w' h => ⟨h.1, _, h.2.symm⟩))
      go_wp2_with fail
      go_ret
      exact ⟨ret_bool (by simp [e0]), drewN_below (be1 _ _) _⟩
    · by_cases e1 : xi ≤ ap
      · have e1' : decide (xi ≤ ap) = true := by simp [e1]
        go_wp2_with fail
        go_quiet (exact (HE.out _).mono (fun e w' h => ⟨h.1, _, h.2.symm⟩))
        go_wp2_with fail
        go_ret
        exact ⟨ret_bool (by simp [e0, e1]), drewN_below (be1 _ _) _⟩
      · have e1' : decide (xi ≤ ap) = false := by simp [e1]
        go_wp2_with fail
        go_quiet (exact (HE.out _).mono (fun e w' h => ⟨h.1, _, h.2.symm⟩))
        go_wp2_with fail
        go_ret
        exact ⟨ret_bool (by simp [e0, e1]), drewN_below (be1 _ _) _⟩
  · have e0' : decide (0 < xn) = false := by simp [e0]
    go_wp2_with fail
    go_quiet (fail)
    go_wp2_with fail
    go_ret
    exact ⟨ret_bool (by rw [e0']; rfl), drewN_below (be1 _ _) _⟩

/-- As QTo, its row in the same block. -/
def QSame (w w' : World) (g : Nat) (n own : Int) (L : List Wt) (v : Value) : Prop := ∃ v', QAtV w' g n own L v' ∧ Foot (fun k => k = g ∨ v.ownBlock = some k) w w' ∧ v'.ownBlock = v.ownBlock
theorem QSame.to {w w' : World} {g : Nat} {n own : Int} {L : List Wt} {v : Value} (h : QSame w w' g n own L v) : QTo w w' g n own L v := by
  obtain ⟨v', h1, h2, h3⟩ := h
  exact ⟨v', h1, h2, .inl h3⟩
/-- What a call did behind some that made new blocks alone. -/
theorem QSame.after {w u w' : World} {g : Nat} {n own : Int} {L : List Wt} {v : Value} (hB : Below w.heap.size w u) (h : QSame u w' g n own L v) (hv : ∀ i, v.ownBlock = some i → i < w.heap.size) : QSame w w' g n own L v := by
  obtain ⟨v', h1, h2, h3⟩ := h
  have zs := hB.size
  exact ⟨v', h1, (Foot.of_below hB).then h2 (fun i hi => .inl hi), h3⟩
/-- The queue's requests' sets. -/
def SetOk (L : List Wt) : Prop := ∀ x ∈ L, x.set < 256
def left (p : Wt → Bool) (L : List Wt) : List Wt := L.filter (fun x => !p x)
set_option maxHeartbeats 4000000 in
theorem take_done (c1 c2 : Nat) (p : Wt → Bool) (g : Nat) (n own : Int) (hn : n ≠ 0) (L : List Wt) (v : Value) (w : World) (hq : QAtV w g n own L v) (hL : L.length ≤ 500) (hs : SetOk L)
    (HC : ∀ u', Foot (fun k => v.ownBlock = some k ∨ w.heap.size ≤ k) w u' → ∀ (xm xs : Int) (xk : Nat) (xa xb xc : ByteArray) (xn xi : Int) (xt : Nat), xt < 256 → Calls Try.prog 37 #[.agg #[.int .i64 xm, .int .i64 xs, .int .u8 (xk : Nat), .string xa, .string xb, .string xc, .int .i64 xn, .int .i64 xi, .int .u8 (xt : Nat)], .pointer (some ⟨c1, 0, none⟩), .pointer (some ⟨c2, 0, none⟩)] u' fun e w' => e = .returned (.bool (p ⟨⟨xm, xs, ⟨xk, xa, xb, xc⟩⟩, xn, xi, xt⟩)) ∧ Below u'.heap.size u' w') :
    Calls Try.prog 36 #[.pointer (some ⟨g, 0, none⟩), .func (.func 37) #[] #[.pointer (some ⟨c1, 0, none⟩), .pointer (some ⟨c2, 0, none⟩)]] w fun e w' =>
      ∃ vo, e = .returned vo ∧ w'.ownsRow w.heap.size 25 6 vo (took p L).length ((took p L).flatMap rqC) ∧ QSame w w' g n own (left p L) v := by
  have hgl : g < w.heap.size := Whole.lt hq.1
  have hob : Hid (∀ i, v.ownBlock = some i → i < w.heap.size ∧ g < i) := fun i hi => by have := own_lt hq.2 hi; omega
  have N := Lib.hid (none_false g n own hn v _ (hq.below (be1 w (.cells #[.func (.func 37) #[] #[.pointer (some ⟨c1, 0, none⟩), .pointer (some ⟨c2, 0, none⟩)]] 71))).1)
  obtain ⟨W, hW⟩ : ∃ W : World, W = (w.alloc (.cells #[.func (.func 37) #[] #[.pointer (some ⟨c1, 0, none⟩), .pointer (some ⟨c2, 0, none⟩)]] 71)).alloc (.cells #[.slice none 0 0] 41) := ⟨_, rfl⟩
  have HB : Below w.heap.size w W := by rw [hW]; exact be2 _ _ _
  have hWs : W.heap.size = w.heap.size + 2 := by rw [hW]; simp
  have hf : Whole W w.heap.size 71 [.func (.func 37) #[] #[.pointer (some ⟨c1, 0, none⟩), .pointer (some ⟨c2, 0, none⟩)]] := by rw [hW]; exact (Whole.new _ _ _).alloc _
  have hox : OV (w.heap.size + 1) W [] (.slice none 0 0) := by
    rw [hW]
    refine ⟨?_, rfl, .inl ⟨rfl, rfl⟩⟩
    exact wh1_2 w _ 41 [.slice none 0 0]
  have hQ := hq.below HB
  have HT : T1 w.heap.size (w.heap.size + 1) p (fun k => v.ownBlock = some k ∨ w.heap.size + 1 ≤ k) W := by
    intro xm xs xk xa xb xc xn xi xt M vo u hx hM ho hu
    have hwu : Foot (fun k => v.ownBlock = some k ∨ w.heap.size ≤ k) w u := (Foot.of_below HB).then hu (fun i hi => by rcases hi with hi | hi; exact .inl (.inl hi); exact .inr (by omega))
    have hfu : Whole u w.heap.size 71 [.func (.func 37) #[] #[.pointer (some ⟨c1, 0, none⟩), .pointer (some ⟨c2, 0, none⟩)]] := hu.whole hf (fun e => by rcases e with e | e; have := hob.out _ e; omega; omega)
    have := take1_done c1 c2 (p ⟨⟨xm, xs, ⟨xk, xa, xb, xc⟩⟩, xn, xi, xt⟩) w.heap.size (w.heap.size + 1) M vo xm xs xk xa xb xc xn xi xt u (by omega) hM (fun u' hu' => HC u' (hwu.then (Foot.of_below (F := fun k => v.ownBlock = some k ∨ w.heap.size ≤ k) hu') (fun i hi => .inl hi)) xm xs xk xa xb xc xn xi xt hx) hfu ho
    exact this
  have HD := Lib.hid (delete_take p (g + 1) w.heap.size (w.heap.size + 1) L v _ W hQ.2 (fun i hi => by have := hob.out i hi; omega) hL hs hox HT)
  have q2 := Whole.cell hQ.1 2
  have q2f := Whole.free hQ.1 2
  simp only [List.getElem?_cons_zero, List.getElem?_cons_succ] at q2
  have HQ := Lib.hid hQ
  have HBW := Lib.hid HB
  clear hf hox HT hQ hq HC HB
  have HWD := Lib.hid hW
  go_enter Try.func36, Try.ntmps36
  go_wp2_with fail
  refine N.out.mono ?_
  rintro e u ⟨rfl, rfl⟩
  rw [hW] at q2 q2f HD HBW HQ
  clear HWD
  subst hW
  go_wp2_with fail
  refine HD.out.mono ?_
  rintro e w2 ⟨⟨v', rfl, hown2, hvo⟩, ⟨vo', hox2⟩, hf2⟩
  obtain ⟨A', c', rfl, _, _⟩ := (Row.of_own hown2).slice
  obtain ⟨A'', c'', rfl, _, _⟩ := (Row.of_own hox2.2).slice
  have hg2 : Whole w2 g 33 [.int .i64 n, .int .i64 own, v] := hf2.whole HQ.out.1 (fun e => by rcases e with e | e; have := hob.out _ e; omega; omega)
  have g2 := Whole.cell hg2 2
  have g2f := Whole.free hg2 2
  have o0 := Whole.cell hox2.1 0
  simp only [List.getElem?_cons_zero, List.getElem?_cons_succ] at g2 o0
  have HG2 := Lib.hid hg2
  have HO2 := Lib.hid hown2
  have HX2 := Lib.hid hox2
  have HF2 := Lib.hid hf2
  clear hg2 hown2 hox2 hf2 q2 q2f
  go_wp2_with fail
  go_ret
  have zs := HF2.out.size
  refine ⟨_, rfl, ?_, _, ⟨Whole.set HG2.out 2 _, ?_⟩, ?_, hvo⟩
  · have h5 := ownsRow_setCell_below HX2.out.2 (a := ⟨g, 2, none⟩) (by show g < w.heap.size + 1 + 1; omega) (.slice A' (L.filter (fun x => !p x)).length c')
    exact own_base h5 (by omega)
  · exact ownsRow_setCell_below HO2.out (a := ⟨g, 2, none⟩) (Nat.lt_succ_self g) _
  · exact (((Foot.of_below HBW.out).then (HF2.out.mono (G := fun k => (k = g ∨ v.ownBlock = some k) ∨ w.heap.size ≤ k) fun i hi => by rcases hi with hi | hi; exact .inl (.inr hi); exact .inr (by omega)) (fun i hi => hi))).set (p := ⟨g, 2, none⟩) (.inl (.inl rfl)) _

set_option maxHeartbeats 4000000 in
theorem take_ready (c1 c2 : Nat) (p : Wt → Bool) (g : Nat) (n own : Int) (hn : n ≠ 0) (L : List Wt) (v : Value) (w : World) (hq : QAtV w g n own L v) (hL : L.length ≤ 500) (hs : SetOk L)
    (HC : ∀ u', Foot (fun k => v.ownBlock = some k ∨ w.heap.size ≤ k) w u' → ∀ (xm xs : Int) (xk : Nat) (xa xb xc : ByteArray) (xn xi : Int) (xt : Nat), xt < 256 → Calls Try.prog 38 #[.agg #[.int .i64 xm, .int .i64 xs, .int .u8 (xk : Nat), .string xa, .string xb, .string xc, .int .i64 xn, .int .i64 xi, .int .u8 (xt : Nat)], .pointer (some ⟨c1, 0, none⟩), .pointer (some ⟨c2, 0, none⟩)] u' fun e w' => e = .returned (.bool (p ⟨⟨xm, xs, ⟨xk, xa, xb, xc⟩⟩, xn, xi, xt⟩)) ∧ Below u'.heap.size u' w') :
    Calls Try.prog 36 #[.pointer (some ⟨g, 0, none⟩), .func (.func 38) #[] #[.pointer (some ⟨c1, 0, none⟩), .pointer (some ⟨c2, 0, none⟩)]] w fun e w' =>
      ∃ vo, e = .returned vo ∧ w'.ownsRow w.heap.size 25 6 vo (took p L).length ((took p L).flatMap rqC) ∧ QSame w w' g n own (left p L) v := by
  have hgl : g < w.heap.size := Whole.lt hq.1
  have hob : Hid (∀ i, v.ownBlock = some i → i < w.heap.size ∧ g < i) := fun i hi => by have := own_lt hq.2 hi; omega
  have N := Lib.hid (none_false g n own hn v _ (hq.below (be1 w (.cells #[.func (.func 38) #[] #[.pointer (some ⟨c1, 0, none⟩), .pointer (some ⟨c2, 0, none⟩)]] 71))).1)
  obtain ⟨W, hW⟩ : ∃ W : World, W = (w.alloc (.cells #[.func (.func 38) #[] #[.pointer (some ⟨c1, 0, none⟩), .pointer (some ⟨c2, 0, none⟩)]] 71)).alloc (.cells #[.slice none 0 0] 41) := ⟨_, rfl⟩
  have HB : Below w.heap.size w W := by rw [hW]; exact be2 _ _ _
  have hWs : W.heap.size = w.heap.size + 2 := by rw [hW]; simp
  have hf : Whole W w.heap.size 71 [.func (.func 38) #[] #[.pointer (some ⟨c1, 0, none⟩), .pointer (some ⟨c2, 0, none⟩)]] := by rw [hW]; exact (Whole.new _ _ _).alloc _
  have hox : OV (w.heap.size + 1) W [] (.slice none 0 0) := by
    rw [hW]
    refine ⟨?_, rfl, .inl ⟨rfl, rfl⟩⟩
    exact wh1_2 w _ 41 [.slice none 0 0]
  have hQ := hq.below HB
  have HT : T1 w.heap.size (w.heap.size + 1) p (fun k => v.ownBlock = some k ∨ w.heap.size + 1 ≤ k) W := by
    intro xm xs xk xa xb xc xn xi xt M vo u hx hM ho hu
    have hwu : Foot (fun k => v.ownBlock = some k ∨ w.heap.size ≤ k) w u := (Foot.of_below HB).then hu (fun i hi => by rcases hi with hi | hi; exact .inl (.inl hi); exact .inr (by omega))
    have hfu : Whole u w.heap.size 71 [.func (.func 38) #[] #[.pointer (some ⟨c1, 0, none⟩), .pointer (some ⟨c2, 0, none⟩)]] := hu.whole hf (fun e => by rcases e with e | e; have := hob.out _ e; omega; omega)
    have := take1_ready c1 c2 (p ⟨⟨xm, xs, ⟨xk, xa, xb, xc⟩⟩, xn, xi, xt⟩) w.heap.size (w.heap.size + 1) M vo xm xs xk xa xb xc xn xi xt u (by omega) hM (fun u' hu' => HC u' (hwu.then (Foot.of_below (F := fun k => v.ownBlock = some k ∨ w.heap.size ≤ k) hu') (fun i hi => .inl hi)) xm xs xk xa xb xc xn xi xt hx) hfu ho
    exact this
  have HD := Lib.hid (delete_take p (g + 1) w.heap.size (w.heap.size + 1) L v _ W hQ.2 (fun i hi => by have := hob.out i hi; omega) hL hs hox HT)
  have q2 := Whole.cell hQ.1 2
  have q2f := Whole.free hQ.1 2
  simp only [List.getElem?_cons_zero, List.getElem?_cons_succ] at q2
  have HQ := Lib.hid hQ
  have HBW := Lib.hid HB
  clear hf hox HT hQ hq HC HB
  have HWD := Lib.hid hW
  go_enter Try.func36, Try.ntmps36
  go_wp2_with fail
  refine N.out.mono ?_
  rintro e u ⟨rfl, rfl⟩
  rw [hW] at q2 q2f HD HBW HQ
  clear HWD
  subst hW
  go_wp2_with fail
  refine HD.out.mono ?_
  rintro e w2 ⟨⟨v', rfl, hown2, hvo⟩, ⟨vo', hox2⟩, hf2⟩
  obtain ⟨A', c', rfl, _, _⟩ := (Row.of_own hown2).slice
  obtain ⟨A'', c'', rfl, _, _⟩ := (Row.of_own hox2.2).slice
  have hg2 : Whole w2 g 33 [.int .i64 n, .int .i64 own, v] := hf2.whole HQ.out.1 (fun e => by rcases e with e | e; have := hob.out _ e; omega; omega)
  have g2 := Whole.cell hg2 2
  have g2f := Whole.free hg2 2
  have o0 := Whole.cell hox2.1 0
  simp only [List.getElem?_cons_zero, List.getElem?_cons_succ] at g2 o0
  have HG2 := Lib.hid hg2
  have HO2 := Lib.hid hown2
  have HX2 := Lib.hid hox2
  have HF2 := Lib.hid hf2
  clear hg2 hown2 hox2 hf2 q2 q2f
  go_wp2_with fail
  go_ret
  have zs := HF2.out.size
  refine ⟨_, rfl, ?_, _, ⟨Whole.set HG2.out 2 _, ?_⟩, ?_, hvo⟩
  · have h5 := ownsRow_setCell_below HX2.out.2 (a := ⟨g, 2, none⟩) (by show g < w.heap.size + 1 + 1; omega) (.slice A' (L.filter (fun x => !p x)).length c')
    exact own_base h5 (by omega)
  · exact ownsRow_setCell_below HO2.out (a := ⟨g, 2, none⟩) (Nat.lt_succ_self g) _
  · exact (((Foot.of_below HBW.out).then (HF2.out.mono (G := fun k => (k = g ∨ v.ownBlock = some k) ∨ w.heap.size ≤ k) fun i hi => by rcases hi with hi | hi; exact .inl (.inr hi); exact .inr (by omega)) (fun i hi => hi))).set (p := ⟨g, 2, none⟩) (.inl (.inl rfl)) _

set_option maxHeartbeats 4000000 in
theorem take_clear (p : Wt → Bool) (g : Nat) (n own : Int) (hn : n ≠ 0) (L : List Wt) (v : Value) (w : World) (hq : QAtV w g n own L v) (hL : L.length ≤ 500) (hs : SetOk L)
    (HC : ∀ u', Foot (fun k => v.ownBlock = some k ∨ w.heap.size ≤ k) w u' → ∀ (xm xs : Int) (xk : Nat) (xa xb xc : ByteArray) (xn xi : Int) (xt : Nat), xt < 256 → Calls Try.prog 39 #[.agg #[.int .i64 xm, .int .i64 xs, .int .u8 (xk : Nat), .string xa, .string xb, .string xc, .int .i64 xn, .int .i64 xi, .int .u8 (xt : Nat)]] u' fun e w' => e = .returned (.bool (p ⟨⟨xm, xs, ⟨xk, xa, xb, xc⟩⟩, xn, xi, xt⟩)) ∧ Below u'.heap.size u' w') :
    Calls Try.prog 36 #[.pointer (some ⟨g, 0, none⟩), .func (.func 39) #[] #[]] w fun e w' =>
      ∃ vo, e = .returned vo ∧ w'.ownsRow w.heap.size 25 6 vo (took p L).length ((took p L).flatMap rqC) ∧ QSame w w' g n own (left p L) v := by
  have hgl : g < w.heap.size := Whole.lt hq.1
  have hob : Hid (∀ i, v.ownBlock = some i → i < w.heap.size ∧ g < i) := fun i hi => by have := own_lt hq.2 hi; omega
  have N := Lib.hid (none_false g n own hn v _ (hq.below (be1 w (.cells #[.func (.func 39) #[] #[]] 71))).1)
  obtain ⟨W, hW⟩ : ∃ W : World, W = (w.alloc (.cells #[.func (.func 39) #[] #[]] 71)).alloc (.cells #[.slice none 0 0] 41) := ⟨_, rfl⟩
  have HB : Below w.heap.size w W := by rw [hW]; exact be2 _ _ _
  have hWs : W.heap.size = w.heap.size + 2 := by rw [hW]; simp
  have hf : Whole W w.heap.size 71 [.func (.func 39) #[] #[]] := by rw [hW]; exact (Whole.new _ _ _).alloc _
  have hox : OV (w.heap.size + 1) W [] (.slice none 0 0) := by
    rw [hW]
    refine ⟨?_, rfl, .inl ⟨rfl, rfl⟩⟩
    exact wh1_2 w _ 41 [.slice none 0 0]
  have hQ := hq.below HB
  have HT : T1 w.heap.size (w.heap.size + 1) p (fun k => v.ownBlock = some k ∨ w.heap.size + 1 ≤ k) W := by
    intro xm xs xk xa xb xc xn xi xt M vo u hx hM ho hu
    have hwu : Foot (fun k => v.ownBlock = some k ∨ w.heap.size ≤ k) w u := (Foot.of_below HB).then hu (fun i hi => by rcases hi with hi | hi; exact .inl (.inl hi); exact .inr (by omega))
    have hfu : Whole u w.heap.size 71 [.func (.func 39) #[] #[]] := hu.whole hf (fun e => by rcases e with e | e; have := hob.out _ e; omega; omega)
    have := take1_clear  (p ⟨⟨xm, xs, ⟨xk, xa, xb, xc⟩⟩, xn, xi, xt⟩) w.heap.size (w.heap.size + 1) M vo xm xs xk xa xb xc xn xi xt u (by omega) hM (fun u' hu' => HC u' (hwu.then (Foot.of_below (F := fun k => v.ownBlock = some k ∨ w.heap.size ≤ k) hu') (fun i hi => .inl hi)) xm xs xk xa xb xc xn xi xt hx) hfu ho
    exact this
  have HD := Lib.hid (delete_take p (g + 1) w.heap.size (w.heap.size + 1) L v _ W hQ.2 (fun i hi => by have := hob.out i hi; omega) hL hs hox HT)
  have q2 := Whole.cell hQ.1 2
  have q2f := Whole.free hQ.1 2
  simp only [List.getElem?_cons_zero, List.getElem?_cons_succ] at q2
  have HQ := Lib.hid hQ
  have HBW := Lib.hid HB
  clear hf hox HT hQ hq HC HB
  have HWD := Lib.hid hW
  go_enter Try.func36, Try.ntmps36
  go_wp2_with fail
  refine N.out.mono ?_
  rintro e u ⟨rfl, rfl⟩
  rw [hW] at q2 q2f HD HBW HQ
  clear HWD
  subst hW
  go_wp2_with fail
  refine HD.out.mono ?_
  rintro e w2 ⟨⟨v', rfl, hown2, hvo⟩, ⟨vo', hox2⟩, hf2⟩
  obtain ⟨A', c', rfl, _, _⟩ := (Row.of_own hown2).slice
  obtain ⟨A'', c'', rfl, _, _⟩ := (Row.of_own hox2.2).slice
  have hg2 : Whole w2 g 33 [.int .i64 n, .int .i64 own, v] := hf2.whole HQ.out.1 (fun e => by rcases e with e | e; have := hob.out _ e; omega; omega)
  have g2 := Whole.cell hg2 2
  have g2f := Whole.free hg2 2
  have o0 := Whole.cell hox2.1 0
  simp only [List.getElem?_cons_zero, List.getElem?_cons_succ] at g2 o0
  have HG2 := Lib.hid hg2
  have HO2 := Lib.hid hown2
  have HX2 := Lib.hid hox2
  have HF2 := Lib.hid hf2
  clear hg2 hown2 hox2 hf2 q2 q2f
  go_wp2_with fail
  go_ret
  have zs := HF2.out.size
  refine ⟨_, rfl, ?_, _, ⟨Whole.set HG2.out 2 _, ?_⟩, ?_, hvo⟩
  · have h5 := ownsRow_setCell_below HX2.out.2 (a := ⟨g, 2, none⟩) (by show g < w.heap.size + 1 + 1; omega) (.slice A' (L.filter (fun x => !p x)).length c')
    exact own_base h5 (by omega)
  · exact ownsRow_setCell_below HO2.out (a := ⟨g, 2, none⟩) (Nat.lt_succ_self g) _
  · exact (((Foot.of_below HBW.out).then (HF2.out.mono (G := fun k => (k = g ∨ v.ownBlock = some k) ∨ w.heap.size ≤ k) fun i hi => by rcases hi with hi | hi; exact .inl (.inr hi); exact .inr (by omega)) (fun i hi => hi))).set (p := ⟨g, 2, none⟩) (.inl (.inl rfl)) _

set_option maxHeartbeats 4000000 in
theorem done_any (g : Nat) (n own : Int) (hn : n ≠ 0) (L : List Wt) (v : Value) (m s : Int) (w : World) (hq : QAtV w g n own L v) (hL : L.length ≤ 500) (hs : SetOk L) :
    Calls Try.prog 12 #[.pointer (some ⟨g, 0, none⟩), .int .i64 m, .int .i64 s] w fun e w' =>
      e = .returned (.bool (L.any (doneB m s))) ∧ QSame w w' g n own (left (doneB m s) L) v := by
  have hgl : g < w.heap.size := Whole.lt hq.1
  have hob : Hid (∀ i, v.ownBlock = some i → i < w.heap.size) := fun i hi => (own_lt hq.2 hi).2
  have hB : Below w.heap.size w ((w.alloc (.cells #[.int .i64 m] 3)).alloc (.cells #[.int .i64 s] 3)) := be2 _ _ _
  have HT := Lib.hid (take_done w.heap.size (w.heap.size + 1) (doneB m s) g n own hn L v _ (hq.below hB) hL hs (fun u' hu' xm xs xk xa xb xc xn xi xt _ => by
    have k1 : Whole u' w.heap.size 3 [.int .i64 m] := hu'.whole ((Whole.new _ _ _).alloc _) (fun e => by rcases e with e | e; have := hob.out _ e; omega; simp at e; omega)
    have k2 : Whole u' (w.heap.size + 1) 3 [.int .i64 s] := hu'.whole (wh1_2 w _ 3 [.int .i64 s]) (fun e => by rcases e with e | e; have := hob.out _ e; omega; simp at e; omega)
    exact done1_any xm xs xk xa xb xc xn xi xt _ _ m s u' (k1.cell 0) (k2.cell 0)))
  have HB := Lib.hid hB
  clear hq hB
  go_enter Try.func12, Try.ntmps12
  go_wp2_with fail
  refine HT.out.mono ?_
  rintro e u ⟨vo, rfl, hown, hqt⟩
  obtain ⟨A, c, rfl, _, _⟩ := (Row.of_own hown).slice
  have HQ := Lib.hid hqt
  clear hown hqt HT
  go_wp2_with fail
  go_ret
  refine ⟨ret_bool ?_, QSame.after HB.out HQ.out (fun i hi => hob.out i hi)⟩
  rw [Bool.eq_iff_iff]
  simp only [decide_eq_true_eq, List.any_eq_true]
  unfold took
  rw [List.length_map]
  constructor
  · intro h
    obtain ⟨x, hx⟩ := List.exists_mem_of_length_pos (by omega : 0 < (L.filter (doneB m s)).length)
    exact ⟨x, (List.mem_filter.1 hx).1, (List.mem_filter.1 hx).2⟩
  · rintro ⟨x, hx, hp⟩
    have := List.length_pos_of_mem (List.mem_filter.2 ⟨hx, hp⟩)
    omega

set_option maxHeartbeats 4000000 in
theorem ready_any (g : Nat) (n own : Int) (hn : n ≠ 0) (L : List Wt) (v : Value) (ap : Int) (w : World) (hq : QAtV w g n own L v) (hL : L.length ≤ 500) (hs : SetOk L) :
    Calls Try.prog 13 #[.pointer (some ⟨g, 0, none⟩), .int .i64 ap] w fun e w' =>
      ∃ vo, e = .returned vo ∧ w'.ownsRow w.heap.size 25 6 vo (took (readyB n ap) L).length ((took (readyB n ap) L).flatMap rqC) ∧ QSame w w' g n own (left (readyB n ap) L) v := by
  have hgl : g < w.heap.size := Whole.lt hq.1
  have hob : Hid (∀ i, v.ownBlock = some i → i < w.heap.size ∧ g < i) := fun i hi => by have := own_lt hq.2 hi; omega
  have hB : Below w.heap.size w ((w.alloc (.cells #[.pointer (some ⟨g, 0, none⟩)] 30)).alloc (.cells #[.int .i64 ap] 3)) := be2 _ _ _
  have HT := Lib.hid (take_ready w.heap.size (w.heap.size + 1) (readyB n ap) g n own hn L v _ (hq.below hB) hL hs (fun u' hu' xm xs xk xa xb xc xn xi xt hx => by
    have k1 : Whole u' w.heap.size 30 [.pointer (some ⟨g, 0, none⟩)] := hu'.whole ((Whole.new _ _ _).alloc _) (fun e => by rcases e with e | e; have := hob.out _ e; omega; simp at e; omega)
    have k2 : Whole u' (w.heap.size + 1) 3 [.int .i64 ap] := hu'.whole (wh1_2 w _ 3 [.int .i64 ap]) (fun e => by rcases e with e | e; have := hob.out _ e; omega; simp at e; omega)
    have k3 := hu'.whole (hq.below hB).1 (fun e => by rcases e with e | e; have := hob.out _ e; omega; simp at e; omega)
    exact ready1_any xm xs xk xa xb xc xn xi xt hx _ _ g n ap u' (k1.cell 0) (k2.cell 0) (Whole.cell k3 0)))
  have HB := Lib.hid hB
  clear hq hB
  go_enter Try.func13, Try.ntmps13
  go_wp2_with fail
  refine HT.out.mono ?_
  rintro e u ⟨vo, rfl, hown, hqt⟩
  obtain ⟨A, c, rfl, _, _⟩ := (Row.of_own hown).slice
  have HQ := Lib.hid hqt
  have HO := Lib.hid hown
  clear hown hqt HT
  go_wp2_with fail
  go_ret
  exact ⟨_, rfl, own_base HO.out (by simp; omega), QSame.after HB.out HQ.out (fun i hi => (hob.out i hi).1)⟩

set_option maxHeartbeats 4000000 in
theorem clear_any (g : Nat) (n own : Int) (hn : n ≠ 0) (L : List Wt) (v : Value) (w : World) (hq : QAtV w g n own L v) (hL : L.length ≤ 500) (hs : SetOk L) :
    Calls Try.prog 14 #[.pointer (some ⟨g, 0, none⟩)] w fun e w' =>
      ∃ vo, e = .returned vo ∧ w'.ownsRow w.heap.size 25 6 vo (L.map (·.r)).length ((L.map (·.r)).flatMap rqC) ∧ QSame w w' g n own [] v := by
  have HT := Lib.hid (take_clear (fun _ => true) g n own hn L v _ hq hL hs (fun u' hu' xm xs xk xa xb xc xn xi xt _ => clear1_any xm xs xk xa xb xc xn xi xt u'))
  have e1 : took (fun _ => true) L = L.map (·.r) := by unfold took; rw [List.filter_eq_self.2 (fun _ _ => rfl)]
  have e2 : left (fun _ => true) L = [] := by unfold left; exact List.filter_eq_nil_iff.2 (fun _ _ h => by simp at h)
  rw [e1, e2] at HT
  clear hq e1 e2
  go_enter Try.func14, Try.ntmps14
  go_wp2_with fail
  refine HT.out.mono ?_
  rintro e u ⟨vo, rfl, hown, hqt⟩
  obtain ⟨A, c, rfl, _, _⟩ := (Row.of_own hown).slice
  have HQ := Lib.hid hqt
  have HO := Lib.hid hown
  clear hown hqt HT
  go_wp2_with fail
  go_ret
  refine ⟨_, rfl, ?_, HQ.out⟩
  have h := HO.out
  rw [List.length_map] at h ⊢
  exact h

end Qu
end Go.Proofs.Ytinnpeonokdljaa
