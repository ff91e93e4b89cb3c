/- Acts at a queue; which lists of acts are great; the rest of a queue that nobody made. -/
import Derived.Test.YtinnpeonokdljaaQueueNon
set_option linter.unusedSimpArgs false
set_option linter.unusedVariables false
namespace Go.Proofs.Ytinnpeonokdljaa
open Go.RowKit

namespace Qu
/-- An act. -/
structure Ac where
  kind : Nat
  r : Rq
  nonce : Int
  index : Int
def acC (x : Ac) : List Value := [.int .u8 (x.kind : Nat), .int .i64 x.r.client, .int .i64 x.r.seq, .int .u8 (x.r.op.kind : Nat), .string x.r.op.key, .string x.r.op.old, .string x.r.op.val, .int .i64 x.nonce, .int .i64 x.index]
theorem acC_len (x : Ac) : (acC x).length = 9 := rfl
def hugeB (x : Ac) : Bool := decide (50 < x.r.op.key.size) || decide (50 < x.r.op.old.size) || decide (50 < x.r.op.val.size)
def greatB (l : List Ac) : Bool := decide (200 < l.length) || l.any hugeB

set_option maxHeartbeats 4000000 in
theorem great_any (l : List Ac) (v : Value) (B : Nat) (w : World) (hr : Row w B v l.length (l.flatMap acC)) (hB : B ≤ w.heap.size) :
    Calls Try.prog 8 #[v] w fun e w' => e = .returned (.bool (greatB l)) ∧ Below w.heap.size w w' := by
  obtain ⟨A, c, rfl, _, _⟩ := hr.slice
  have HR := Lib.hid (hr.more hB)
  clear hr hB
  go_enter Try.func8, Try.ntmps8
  by_cases hl : (200 : Int) < (l.length : Int)
  · go_wp2_with fail
    go_ret
    refine ⟨ret_bool ?_, Below.refl _ _⟩
    unfold greatB
    rw [decide_eq_true (by omega : 200 < l.length)]; rfl
  have HG : Hid (greatB l = l.any hugeB) := by
    show _ = _
    unfold greatB
    rw [decide_eq_false (by omega : ¬ 200 < l.length)]; rfl
  go_wp2_with fail
  go_loopw [3] (fun i wr => ∃ k : Nat, k ≤ l.length ∧ i = .int .i64 k ∧ (l.take k).any hugeB = false ∧ Below w.heap.size w wr) (fun i _ => l.length - (intOf i).toNat)
  case atStart => exact ⟨0, Nat.zero_le _, rfl, by simp, Below.refl _ _⟩
  case round =>
    obtain ⟨k, hk, rfl, hno, hx⟩ := hrel
    have Hno := Lib.hid hno; clear hno
    have zs := hx.size
    by_cases hlt : k < l.length
    · have h2 := HR.out
      obtain ⟨b2, o2, rfl, hb2, hx2⟩ := h2.elem acC_len (by omega) hlt
      have y3 := (hx.cell (p := ⟨b2, o2 + (k * 9 + 3), none⟩) hb2).trans (hx2 3 _ rfl)
      have y4 := (hx.cell (p := ⟨b2, o2 + (k * 9 + 4), none⟩) hb2).trans (hx2 4 _ rfl)
      have y5 := (hx.cell (p := ⟨b2, o2 + (k * 9 + 5), none⟩) hb2).trans (hx2 5 _ rfl)
      have y6 := (hx.cell (p := ⟨b2, o2 + (k * 9 + 6), none⟩) hb2).trans (hx2 6 _ rfl)
      clear hx2 h2
      have hnext : (l.take (k + 1)).any hugeB = hugeB l[k] := by
        rw [List.take_succ_eq_append_getElem hlt, List.any_append, Hno.out]; simp
      have hall : hugeB l[k] = true → l.any hugeB = true := fun h => List.any_eq_true.2 ⟨l[k], List.getElem_mem hlt, h⟩
      have HN := Lib.hid hnext; clear hnext
      have HA := Lib.hid hall; clear hall
      generalize l[k] = x at *
      obtain ⟨ak, ⟨m, s, ⟨ok, a, b, cc⟩⟩, nn, ix⟩ := x
      dsimp only at y3 y4 y5 y6
      rw [← Nat.add_assoc] at y3 y4 y5 y6
      have y4' : wr.cell? ⟨b2, o2 + k * 9 + 3 + 1, none⟩ = some (.string a) := y4
      have y5' : wr.cell? ⟨b2, o2 + k * 9 + 3 + 2, none⟩ = some (.string b) := y5
      have y6' : wr.cell? ⟨b2, o2 + k * 9 + 3 + 3, none⟩ = some (.string cc) := y6
      have HX := Lib.hid hx
      clear y4 y5 y6 hx
      by_cases g1 : 50 < (a.size : Int)
      · go_wp2_with fail
        go_ret
        refine ⟨ret_bool ?_, HX.out.alloc zs _⟩
        rw [HG.out, HA.out (by unfold hugeB; simp; omega)]
      by_cases g2 : 50 < (b.size : Int)
      · go_wp2_with fail
        go_ret
        refine ⟨ret_bool ?_, HX.out.alloc zs _⟩
        rw [HG.out, HA.out (by unfold hugeB; simp; omega)]
      by_cases g3 : 50 < (cc.size : Int)
      · go_wp2_with fail
        go_ret
        refine ⟨ret_bool ?_, HX.out.alloc zs _⟩
        rw [HG.out, HA.out (by unfold hugeB; simp; omega)]
      · go_wp2_with fail
        go_roundw
        case rel => exact ⟨k + 1, by omega, by go_num, by rw [HN.out]; unfold hugeB; simp; omega, HX.out.alloc zs _⟩
        case measure => simp [intOf]; omega
    · obtain rfl : k = l.length := by omega
      go_wp2_with fail
      go_ret
      refine ⟨ret_bool ?_, hx⟩
      have := Hno.out
      rw [List.take_length] at this
      rw [HG.out, this]

set_option maxHeartbeats 1000000 in
theorem take_non (p : Option Addr) (f : FuncId) (lb : Array Value) (w : World) (hp : Non p w) :
    Calls Try.prog 36 #[.pointer p, .func (.func f) #[] lb] w fun e w' => e = .returned (.slice none 0 0) ∧ Below w.heap.size w w' := by
  have N := Lib.hid (none_true (hp.alloc (.cells #[.func (.func f) #[] lb] 71)))
  clear hp
  go_enter Try.func36, Try.ntmps36
  go_wp2_with fail
  refine N.out.mono ?_
  rintro e u ⟨rfl, rfl⟩
  go_wp2_with fail
  go_ret
  exact ⟨rfl, be1 _ _⟩
set_option maxHeartbeats 1000000 in
theorem done_non (p : Option Addr) (m s : Int) (w : World) (hp : Non p w) :
    Calls Try.prog 12 #[.pointer p, .int .i64 m, .int .i64 s] w fun e w' => e = .returned (.bool false) ∧ Below w.heap.size w w' := by
  have N := Lib.hid (fun f lb => take_non p f lb _ ((hp.alloc (.cells #[.int .i64 m] 3)).alloc (.cells #[.int .i64 s] 3)))
  clear hp
  go_enter Try.func12, Try.ntmps12
  go_wp2_with fail
  refine (N.out _ _).mono ?_
  rintro e u ⟨rfl, hx⟩
  have HX := Lib.hid hx
  clear hx
  go_wp2_with fail
  go_ret
  exact ⟨rfl, (be2 _ _ _).trans (HX.out.mono (by simp; omega))⟩
set_option maxHeartbeats 1000000 in
theorem ready_non (p : Option Addr) (m : Int) (w : World) (hp : Non p w) :
    Calls Try.prog 13 #[.pointer p, .int .i64 m] w fun e w' => e = .returned (.slice none 0 0) ∧ Below w.heap.size w w' := by
  have N := Lib.hid (fun f lb => take_non p f lb _ ((hp.alloc (.cells #[.pointer p] 30)).alloc (.cells #[.int .i64 m] 3)))
  clear hp
  go_enter Try.func13, Try.ntmps13
  go_wp2_with fail
  refine (N.out _ _).mono ?_
  rintro e u ⟨rfl, hx⟩
  have HX := Lib.hid hx
  clear hx
  go_wp2_with fail
  go_ret
  exact ⟨rfl, (be2 _ _ _).trans (HX.out.mono (by simp; omega))⟩
set_option maxHeartbeats 1000000 in
theorem clear_non (p : Option Addr) (w : World) (hp : Non p w) :
    Calls Try.prog 14 #[.pointer p] w fun e w' => e = .returned (.slice none 0 0) ∧ Below w.heap.size w w' := by
  have N := Lib.hid (fun f lb => take_non p f lb _ hp)
  clear hp
  go_enter Try.func14, Try.ntmps14
  go_wp2_with fail
  refine (N.out _ _).mono ?_
  rintro e u ⟨rfl, hx⟩
  have HX := Lib.hid hx
  clear hx
  go_wp2_with fail
  go_ret
  exact ⟨rfl, HX.out⟩
set_option maxHeartbeats 1000000 in
theorem waits_non (p : Option Addr) (w : World) (hp : Non p w) :
    Calls Try.prog 15 #[.pointer p] w fun e w' => e = .returned (.slice none 0 0) ∧ w = w' := by
  have N := Lib.hid (none_true hp)
  clear hp
  go_enter Try.func15, Try.ntmps15
  go_wp2_with fail
  refine N.out.mono ?_
  rintro e u ⟨rfl, rfl⟩
  go_wp2_with fail
  go_ret
  exact ⟨rfl, rfl⟩
set_option maxHeartbeats 1000000 in
theorem answer_non (p : Option Addr) (n r : Int) (w : World) (hp : Non p w) :
    Calls Try.prog 11 #[.pointer p, .int .i64 n, .int .i64 r] w fun e w' => e = .returned (.int .i64 1) ∧ w = w' := by
  have N := Lib.hid (none_true hp)
  clear hp
  go_enter Try.func11, Try.ntmps11
  go_wp2_with fail
  refine N.out.mono ?_
  rintro e u ⟨rfl, rfl⟩
  go_wp2_with fail
  go_ret
  exact ⟨rfl, rfl⟩

end Qu
end Go.Proofs.Ytinnpeonokdljaa
