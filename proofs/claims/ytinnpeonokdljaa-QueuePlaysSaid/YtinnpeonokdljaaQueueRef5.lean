/- The document's queue: Answer, Write, Read. -/
import Derived.Test.YtinnpeonokdljaaQueueRef4
set_option linter.unusedSimpArgs false
set_option linter.unusedVariables false
namespace Go.Proofs.Ytinnpeonokdljaa
open Go.RowKit

def mapK {α : Type} (f : α → α) (M : List α) (k : Nat) : List α := (M.take k).map f ++ M.drop k
theorem mapK_len {α : Type} (f : α → α) (M : List α) (k : Nat) (hk : k ≤ M.length) : (mapK f M k).length = M.length := by unfold mapK; simp; omega
theorem mapK_zero {α : Type} (f : α → α) (M : List α) : mapK f M 0 = M := by unfold mapK; simp
theorem mapK_all {α : Type} (f : α → α) (M : List α) : mapK f M M.length = M.map f := by unfold mapK; simp
theorem mapK_at {α : Type} (f : α → α) (M : List α) (k : Nat) (hk : k < M.length) : ∃ h : k < (mapK f M k).length, (mapK f M k)[k] = M[k] := by
  refine ⟨by rw [mapK_len _ _ _ (by omega)]; exact hk, ?_⟩
  unfold mapK
  rw [List.getElem_append_right (by simp; omega)]
  simp only [List.length_map, List.length_take, List.getElem_drop]
  congr 1
  omega
theorem mapK_next {α : Type} (f : α → α) (M : List α) (k : Nat) (hk : k < M.length) : mapK f M (k + 1) = (mapK f M k).set k (f M[k]) := by
  unfold mapK
  have hl : ((M.take k).map f).length = k := by rw [List.length_map, List.length_take]; omega
  rw [List.set_append_right _ _ (by rw [hl]; exact Nat.le_refl _), hl, Nat.sub_self, List.take_succ_eq_append_getElem hk, List.map_append, List.append_assoc, List.drop_eq_getElem_cons hk]
  rfl
theorem mapK_same {α : Type} (f : α → α) (M : List α) (k : Nat) (hk : k < M.length) (h : f M[k] = M[k]) : mapK f M (k + 1) = mapK f M k := by
  obtain ⟨h1, h2⟩ := mapK_at f M k hk
  rw [mapK_next _ _ _ hk, h]
  conv => lhs; rw [← h2]
  exact List.set_getElem_self h1

namespace Qu
open Qm
def ransW (nonce r : Int) (x : En) : En := if x.reads && decide (x.nonce ≤ nonce) then { x with set := addN x.set r } else x
def ransR (n nonce r : Int) (M : List En) : Int × List En := if !numB 1 nonce || decide (r < 0) || decide (n ≤ r) then (2, M) else (0, M.map (ransW nonce r))
/-- One cell of the k-th that waits is written. -/
theorem mI_set {w0 u : World} {g : Nat} {n own : Int} {M : List En} {rb c1 cp : Nat} {l : List It} (hc : M.length = c1) (h : Sep w0 (mI g n own M (.slice (some ⟨rb, 0, none⟩) c1 cp) ++ l) u) (k j : Nat) (hk : k < M.length) (hj : j < 10) (v : Value) (a : En) (ha : enC a = (enC M[k]).set j v) :
    Sep w0 (mI g n own (M.set k a) (.slice (some ⟨rb, 0, none⟩) c1 cp) ++ l) (u.setCell ⟨rb, k * 10 + j, none⟩ v) := by
  have hr : u.ownsRow (g + 1) 78 10 (.slice (some ⟨rb, 0, none⟩) c1 cp) M.length (M.flatMap enC) := (mI_at h).2
  subst hc
  have hg : Whole u g 75 [.int .i64 n, .int .i64 own, .slice (some ⟨rb, 0, none⟩) M.length cp] := h.head
  have hb : g + 1 ≤ rb := (own_lt hr rfl).1
  have hst := (hr.stored (k * 10 + j) v).1
  rw [flat_set1 enC_len M k j v a hk hj ha] at hst
  refine Sep.turn (F := fun i => i = rb) h ((Foot.refl (fun i => i = rb) u).set (p := ⟨rb, k * 10 + j, none⟩) (.inl rfl) _) ?_ ?_ ?_ ?_
  · rintro i rfl
    exact .inl ⟨_, List.mem_cons_of_mem _ List.mem_cons_self, rfl⟩
  · intro x hx
    simp only [mI, List.mem_cons, List.not_mem_nil, or_false] at hx
    rcases hx with rfl | rfl
    · exact Whole.far hg (p := ⟨rb, k * 10 + j, none⟩) (by show g ≠ rb; omega) _
    · show World.ownsRow _ _ _ _ _ (M.set k a).length _
      rw [List.length_set]
      exact hst
  · intro x hx i hi
    simp only [mI, List.mem_cons, List.not_mem_nil, or_false] at hx
    rcases hx with rfl | rfl
    · exact .inl ⟨_, List.mem_cons_self, hi⟩
    · exact .inl ⟨_, List.mem_cons_of_mem _ List.mem_cons_self, hi⟩
  · refine List.pairwise_cons.2 ⟨?_, List.pairwise_singleton _ _⟩
    intro x hx i hi hi'
    simp only [List.mem_singleton] at hx
    subst hx
    injection hi with hi
    have hi2 : some rb = some i := hi'
    injection hi2 with hi2
    omega
set_option maxRecDepth 100000 in
set_option maxHeartbeats 8000000 in
theorem ranswer_num {w0 : World} {l : List It} (g : Nat) (n own : Int) (M : List En) (y : Value) (nonce r : Int) (w : World) (hS : Sep w0 (mI g n own M y ++ l) w) (hL : M.length ≤ 500) (hs : numB 1 nonce = false) :
    Calls Try.prog 23 #[.pointer (some ⟨g, 0, none⟩), .int .i64 nonce, .int .i64 r] w fun e w' => e = .returned (.int .i64 2) ∧ w = w' := by
  have hgl : g < w.heap.size := Whole.lt (mI_at hS).1
  obtain ⟨A, cp, hyv⟩ := own_slice' (mI_at hS).2
  subst hyv
  have HS0 := Lib.hid hS
  have q0 := Whole.cell (mI_at hS).1 0
  have q2 := Whole.cell (mI_at hS).1 2
  simp only [List.getElem?_cons_zero, List.getElem?_cons_succ] at q0 q2
  clear hS
  have WA := whole_any nonce 1 w
  rw [hs] at WA
  clear hs
  have WA := Lib.hid WA
  go_enter Try.func23, Try.ntmps23
  go_wp2_with fail
  refine WA.out.mono ?_
  rintro e u ⟨rfl, rfl⟩
  go_wp2_with fail
  go_ret
  exact ⟨rfl, rfl⟩
set_option maxRecDepth 100000 in
set_option maxHeartbeats 8000000 in
theorem ranswer_lo {w0 : World} {l : List It} (g : Nat) (n own : Int) (M : List En) (y : Value) (nonce r : Int) (w : World) (hS : Sep w0 (mI g n own M y ++ l) w) (hL : M.length ≤ 500) (hs : numB 1 nonce = true) (h1 : r < 0) :
    Calls Try.prog 23 #[.pointer (some ⟨g, 0, none⟩), .int .i64 nonce, .int .i64 r] w fun e w' => e = .returned (.int .i64 2) ∧ w = w' := by
  have hgl : g < w.heap.size := Whole.lt (mI_at hS).1
  obtain ⟨A, cp, hyv⟩ := own_slice' (mI_at hS).2
  subst hyv
  have HS0 := Lib.hid hS
  have q0 := Whole.cell (mI_at hS).1 0
  have q2 := Whole.cell (mI_at hS).1 2
  simp only [List.getElem?_cons_zero, List.getElem?_cons_succ] at q0 q2
  clear hS
  have WA := whole_any nonce 1 w
  rw [hs] at WA
  clear hs
  have WA := Lib.hid WA
  go_enter Try.func23, Try.ntmps23
  go_wp2_with fail
  refine WA.out.mono ?_
  rintro e u ⟨rfl, rfl⟩
  go_wp2_with fail
  go_ret
  exact ⟨rfl, rfl⟩
set_option maxRecDepth 100000 in
set_option maxHeartbeats 8000000 in
theorem ranswer_hi {w0 : World} {l : List It} (g : Nat) (n own : Int) (M : List En) (y : Value) (nonce r : Int) (w : World) (hS : Sep w0 (mI g n own M y ++ l) w) (hL : M.length ≤ 500) (hs : numB 1 nonce = true) (h1 : 0 ≤ r) (h2 : n ≤ r) :
    Calls Try.prog 23 #[.pointer (some ⟨g, 0, none⟩), .int .i64 nonce, .int .i64 r] w fun e w' => e = .returned (.int .i64 2) ∧ w = w' := by
  have hgl : g < w.heap.size := Whole.lt (mI_at hS).1
  obtain ⟨A, cp, hyv⟩ := own_slice' (mI_at hS).2
  subst hyv
  have HS0 := Lib.hid hS
  have q0 := Whole.cell (mI_at hS).1 0
  have q2 := Whole.cell (mI_at hS).1 2
  simp only [List.getElem?_cons_zero, List.getElem?_cons_succ] at q0 q2
  clear hS
  have WA := whole_any nonce 1 w
  rw [hs] at WA
  clear hs
  have WA := Lib.hid WA
  go_enter Try.func23, Try.ntmps23
  go_wp2_with fail
  refine WA.out.mono ?_
  rintro e u ⟨rfl, rfl⟩
  go_wp2_with fail
  go_ret
  exact ⟨rfl, rfl⟩
set_option maxRecDepth 100000 in
set_option maxHeartbeats 8000000 in
theorem ranswer_ok {w0 : World} {l : List It} (g : Nat) (n own : Int) (M : List En) (y : Value) (nonce r : Int) (w : World) (hS : Sep w0 (mI g n own M y ++ l) w) (hL : M.length ≤ 500) (hs : numB 1 nonce = true) (h1 : 0 ≤ r) (h2 : r < n) (h7 : n ≤ 7) (hst : ∀ x ∈ M, x.set < 256) :
    Calls Try.prog 23 #[.pointer (some ⟨g, 0, none⟩), .int .i64 nonce, .int .i64 r] w fun e w' => e = .returned (.int .i64 0) ∧ ∃ y', Sep w0 (mI g n own (M.map (ransW nonce r)) y' ++ l) w' := by
  have hgl : g < w.heap.size := Whole.lt (mI_at hS).1
  obtain ⟨A, cp, hyv⟩ := own_slice' (mI_at hS).2
  subst hyv
  have HS0 := Lib.hid hS
  have q0 := Whole.cell (mI_at hS).1 0
  have q2 := Whole.cell (mI_at hS).1 2
  simp only [List.getElem?_cons_zero, List.getElem?_cons_succ] at q0 q2
  clear hS
  have WA := whole_any nonce 1 w
  rw [hs] at WA
  clear hs
  have WA := Lib.hid WA
  go_enter Try.func23, Try.ntmps23
  go_wp2_with fail
  refine WA.out.mono ?_
  rintro e u ⟨rfl, rfl⟩
  have HST := Lib.hid hst
  clear hst WA
  go_wp2_with fail
  go_loopw [7] (fun iv wr => ∃ k : Nat, k ≤ M.length ∧ iv = .int .i64 k ∧ Sep w0 (mI g n own (mapK (ransW nonce r) M k) (.slice A M.length cp) ++ l) wr) (fun iv _ => M.length - (intOf iv).toNat)
  case atStart => exact ⟨0, Nat.zero_le _, rfl, by rw [mapK_zero]; exact HS0.out⟩
  case round =>
    obtain ⟨k, hk, rfl, hsep⟩ := hrel
    have hlen := mapK_len (ransW nonce r) M k hk
    have HS := Lib.hid hsep
    have hw := (mI_at hsep).1
    have hown : World.ownsRow wr (g + 1) 78 10 (.slice A M.length cp) M.length ((mapK (ransW nonce r) M k).flatMap enC) := by have := (mI_at hsep).2; rw [hlen] at this; exact this
    clear q0 q2 hsep
    have q0 := Whole.cell hw 0
    have q2 := Whole.cell hw 2
    have hgl2 := Whole.lt hw
    simp only [List.getElem?_cons_zero, List.getElem?_cons_succ] at q0 q2
    clear hw
    by_cases hlt : k < M.length
    · have hk0 : (0 : Int) ≤ (k : Int) := by omega
      have hk1 : (k : Int) < (M.length : Int) := by omega
      obtain ⟨rb, cap, hv, hrb⟩ := own_form hown (by omega)
      obtain ⟨hA, hcp⟩ : A = some ⟨rb, 0, none⟩ ∧ cap = cp := by injection hv with e1 e2 e3; exact ⟨e1, e3.symm⟩
      subst hA hcp
      obtain ⟨hkX, hXk⟩ := mapK_at (ransW nonce r) M k hlt
      have hrx : Row wr wr.heap.size (.slice (some ⟨rb, 0, none⟩) (mapK (ransW nonce r) M k).length cap) (mapK (ransW nonce r) M k).length ((mapK (ransW nonce r) M k).flatMap enC) := by rw [hlen]; exact Row.of_own hown
      obtain ⟨b2, o2, hA2, hb2, hx2⟩ := hrx.elem enC_len (by omega) hkX
      obtain ⟨rfl, rfl⟩ : rb = b2 ∧ 0 = o2 := by injection hA2 with hA2; injection hA2 with e1 e2; exact ⟨e1, e2⟩
      rw [hXk] at hx2
      have hy : ∀ j x, (enC M[k])[j]? = some x → wr.cell? ⟨rb, k * 10 + j, none⟩ = some x := fun j x h => by
        have := hx2 j x h
        rwa [Nat.zero_add] at this
      have y6 := hy 6 _ rfl
      have y7 := hy 7 _ rfl
      have y9 := hy 9 _ rfl
      have f9 : wr.frozen? ⟨rb, k * 10 + 9, none⟩ = false := hown.frozenAt _
      have hsx := HST.out _ (List.getElem_mem hlt)
      have HN : Hid (mapK (ransW nonce r) M (k + 1) = (mapK (ransW nonce r) M k).set k (ransW nonce r M[k])) := mapK_next _ M k hlt
      have HM : Hid (ransW nonce r M[k] = M[k] → mapK (ransW nonce r) M (k + 1) = mapK (ransW nonce r) M k) := fun h => mapK_same _ M k hlt h
      have HKX := Lib.hid hkX
      have HXK : Hid ((mapK (ransW nonce r) M k)[k]'HKX.out = M[k]) := hXk
      clear hx2 hy hrx hA2 hXk hown hkX hv
      generalize hgx : M[k] = x at y6 y7 y9 hsx
      have HGX := Lib.hid hgx
      obtain ⟨⟨em1, es, ⟨ek, ea, eb, ec⟩⟩, er, en, ei, et⟩ := x
      dsimp only at y6 y7 y9 hsx
      clear hgx
      have AD := Lib.hid (radd_int et hsx r h1 (by omega))
      cases er
      · go_wp2_with fail
        refine ⟨⟨k + 1, by omega, by go_num, ?_⟩, by simp [intOf]; omega⟩
        rw [HM.out (by rw [HGX.out]; unfold ransW; simp)]
        exact HS.out
      · by_cases hle : en ≤ nonce
        · have hle' : decide (en ≤ nonce) = true := by simp [hle]
          go_wp2_with fail
          refine wp_region_still_tail 15 (by kernel_rfl) (by kernel_rfl) ?_
          simp only [List.take_succ_cons, List.take_zero, List.drop_succ_cons, List.drop_zero]
          refine wpStill_step (fun K hK => ?_)
          go_simp
          refine hK _ ?_
          clear hK K
          refine wpStill_step (fun K hK => ?_)
          go_simp
          refine hK _ ?_
          clear hK K
          refine wpStill_step (fun K hK => ?_)
          go_simp
          refine hK _ ?_
          clear hK K
          refine wpStill_step (fun K hK => ?_)
          go_simp
          refine hK _ ?_
          clear hK K
          refine wpStill_step (fun K hK => ?_)
          go_simp
          refine hK _ ?_
          clear hK K
          refine wpStill_step (fun K hK => ?_)
          go_simp
          refine hK _ ?_
          clear hK K
          refine wpStill_step (fun K hK => ?_)
          go_simp
          refine hK _ ?_
          clear hK K
          refine wpStill_step (fun K hK => ?_)
          go_simp
          refine hK _ ?_
          clear hK K
          refine wpStill_step (fun K hK => ?_)
          go_simp
          refine hK _ ?_
          clear hK K
          refine wpStill_step (fun K hK => ?_)
          go_simp
          refine hK _ ?_
          clear hK K
          refine wpStill_step (fun K hK => ?_)
          go_simp
          refine hK _ ?_
          clear hK K
          refine wpStill_step (fun K hK => ?_)
          go_simp
          refine hK _ ?_
          clear hK K
          refine wpStill_step (fun K hK => ?_)
          go_simp
          refine hK _ ?_
          clear hK K
          refine wpStill_step (fun K hK => ?_)
          go_simp
          refine hK _ ?_
          clear hK K
          refine wpStill_step (fun K hK => ?_)
          go_simp
          refine ⟨_, (AD.out _).mono (fun e w' h => ⟨h.1, h.2.symm⟩), hK _ ?_⟩
          clear hK K
          refine wpStill_nil ?_
          go_wp2_with fail
          have e1 : ransW nonce r M[k] = ⟨⟨em1, es, ⟨ek, ea, eb, ec⟩⟩, true, en, ei, addN et r⟩ := by rw [HGX.out]; unfold ransW; simp [hle]
          refine ⟨⟨k + 1, by omega, by go_num, ?_⟩, by simp [intOf]; omega⟩
          rw [HN.out]
          exact (mI_set hlen HS.out k 9 HKX.out (by omega) (.int .u8 (addN et r : Nat)) (ransW nonce r M[k]) (by rw [HXK.out, e1, HGX.out]; rfl)).drew
        · have hle' : decide (en ≤ nonce) = false := by simp [hle]
          go_wp2_with fail
          refine ⟨⟨k + 1, by omega, by go_num, ?_⟩, by simp [intOf]; omega⟩
          rw [HM.out (by rw [HGX.out]; unfold ransW; simp [hle])]
          exact HS.out
    · have e : k = M.length := by omega
      subst e
      have h := HS.out
      rw [mapK_all] at h
      have HE := Lib.hid h
      clear h
      go_wp2_with fail
      go_ret
      exact ⟨rfl, _, HE.out⟩
theorem ranswer_sep {w0 : World} {l : List It} (g : Nat) (n own : Int) (M : List En) (y : Value) (nonce r : Int) (w : World) (hS : Sep w0 (mI g n own M y ++ l) w) (hL : M.length ≤ 500) (h7 : n ≤ 7) (hst : ∀ x ∈ M, x.set < 256) :
    Calls Try.prog 23 #[.pointer (some ⟨g, 0, none⟩), .int .i64 nonce, .int .i64 r] w fun e w' => e = .returned (.int .i64 (ransR n nonce r M).1) ∧ ∃ y', Sep w0 (mI g n own (ransR n nonce r M).2 y' ++ l) w' := by
  by_cases hb : (!numB 1 nonce || decide (r < 0) || decide (n ≤ r)) = true
  · have e : ransR n nonce r M = (2, M) := by unfold ransR; rw [if_pos hb]
    rw [e]
    have hc : Calls Try.prog 23 #[.pointer (some ⟨g, 0, none⟩), .int .i64 nonce, .int .i64 r] w fun e w' => e = .returned (.int .i64 2) ∧ w = w' := by
      cases h1 : numB 1 nonce with
      | false => exact ranswer_num g n own M y nonce r w hS hL h1
      | true =>
        by_cases h2 : r < 0
        · exact ranswer_lo g n own M y nonce r w hS hL h1 h2
        · by_cases h3 : n ≤ r
          · exact ranswer_hi g n own M y nonce r w hS hL h1 (by omega) h3
          · rw [h1] at hb; simp at hb; omega
    exact hc.mono fun e w' h => ⟨h.1, y, by rw [← h.2]; exact hS⟩
  · have e : ransR n nonce r M = (0, M.map (ransW nonce r)) := by unfold ransR; rw [if_neg hb]
    rw [e]
    simp only [Bool.or_eq_true, Bool.not_eq_true', decide_eq_true_eq, not_or, Bool.not_eq_false] at hb
    exact ranswer_ok g n own M y nonce r w hS hL hb.1.1 (by omega) (by omega) h7 hst

/-- What wait answers. -/
def badE (e : En) : Bool := decide (e.r.client < 0) || decide (3 < e.r.client) || !numB 1 e.r.seq || !mayOpB e.r.op || (((e.r.op.kind : Int) == 1) != e.reads)
def waitR (M : List En) (e : En) : Bool × Int × List En := if badE e then (false, 2, M) else if hasE M e.r.client e.r.seq then (false, 0, M) else if (M.length : Int) == 8 then (false, 4, M) else (true, 0, M ++ [e])
theorem wait_any (g : Nat) (n own : Int) (M : List En) (y : Value) (m s : Int) (k : Nat) (a b c : ByteArray) (rd : Bool) (nn ix : Int) (st : Nat) (w : World) (hq : MAt w g n own M y) (hL : M.length ≤ 8) :
    Calls Try.prog 42 #[.pointer (some ⟨g, 0, none⟩), .agg #[.int .i64 m, .int .i64 s, .int .u8 (k : Nat), .string a, .string b, .string c, .bool rd, .int .i64 nn, .int .i64 ix, .int .u8 (st : Nat)]] w fun e w' => ∀ P, P = waitR M ⟨⟨m, s, ⟨k, a, b, c⟩⟩, rd, nn, ix, st⟩ → e = .returned (.tuple #[.bool P.1, .int .i64 P.2.1]) ∧ MTo w w' g n own P.2.2 y := by
  have hgo : ∀ {f : Bool} {z : Int} {M' : List En} {X : Ending → World → Prop}, waitR M ⟨⟨m, s, ⟨k, a, b, c⟩⟩, rd, nn, ix, st⟩ = (f, z, M') → (∀ e w', X e w' → e = .returned (.tuple #[.bool f, .int .i64 z]) ∧ MTo w w' g n own M' y) →
      Calls Try.prog 42 #[.pointer (some ⟨g, 0, none⟩), .agg #[.int .i64 m, .int .i64 s, .int .u8 (k : Nat), .string a, .string b, .string c, .bool rd, .int .i64 nn, .int .i64 ix, .int .u8 (st : Nat)]] w X →
      Calls Try.prog 42 #[.pointer (some ⟨g, 0, none⟩), .agg #[.int .i64 m, .int .i64 s, .int .u8 (k : Nat), .string a, .string b, .string c, .bool rd, .int .i64 nn, .int .i64 ix, .int .u8 (st : Nat)]] w fun e w' => ∀ P, P = waitR M ⟨⟨m, s, ⟨k, a, b, c⟩⟩, rd, nn, ix, st⟩ → e = .returned (.tuple #[.bool P.1, .int .i64 P.2.1]) ∧ MTo w w' g n own P.2.2 y :=
    fun he hx hc => hc.mono fun e w' h P hP => by rw [hP, he]; exact hx e w' h
  by_cases hbad : badE ⟨⟨m, s, ⟨k, a, b, c⟩⟩, rd, nn, ix, st⟩ = true
  · refine hgo (f := false) (z := 2) (M' := M) (X := fun e w' => e = .returned (.tuple #[.bool false, .int .i64 2]) ∧ Below w.heap.size w w') (by unfold waitR; rw [if_pos hbad]) (fun e w' h => ⟨h.1, MTo.same hq h.2⟩) ?_
    unfold badE at hbad
    by_cases h1 : m < 0
    · exact wait_lo g n own M y m s k a b c rd nn ix st w hq h1
    · by_cases h2 : 3 < m
      · exact wait_hi g n own M y m s k a b c rd nn ix st w hq (by omega) h2
      · cases h3 : numB 1 s with
        | false => exact wait_num g n own M y m s k a b c rd nn ix st w hq (by omega) (by omega) h3
        | true =>
          cases h4 : mayOpB ⟨k, a, b, c⟩ with
          | false => exact wait_op g n own M y m s k a b c rd nn ix st w hq (by omega) (by omega) h3 h4
          | true =>
            refine wait_kind g n own M y m s k a b c rd nn ix st w hq (by omega) (by omega) h3 h4 ?_
            rw [h3, h4, decide_eq_false h1, decide_eq_false h2] at hbad
            cases rd <;> cases hkk : ((k : Int) == 1) <;> simp [hkk] at hbad <;> rfl
  · have hb' := hbad
    unfold badE at hb'
    simp only [Bool.or_eq_true, Bool.not_eq_true', decide_eq_true_eq, not_or, Bool.not_eq_false] at hb'
    obtain ⟨⟨⟨⟨h1, h2⟩, h3⟩, h4⟩, h5⟩ := hb'
    have h5' : ((k : Int) == 1) = rd := by
      cases rd <;> cases hkk : ((k : Int) == 1) <;> simp [hkk] at h5 <;> rfl
    cases hh : hasE M m s with
    | true => exact hgo (by unfold waitR; rw [if_neg hbad, if_pos hh]) (fun e w' h => ⟨h.1, MTo.same hq h.2⟩) (wait_has g n own M y m s k a b c rd nn ix st w hq (by omega) (by omega) h3 h4 h5' hh)
    | false =>
      have hh' : ¬ hasE M m s = true := by rw [hh]; decide
      cases hl : ((M.length : Int) == 8) with
      | true => exact hgo (by unfold waitR; rw [if_neg hbad, if_neg hh', if_pos hl]) (fun e w' h => ⟨h.1, MTo.same hq h.2⟩) (wait_full g n own M y m s k a b c rd nn ix st w hq (by omega) (by omega) h3 h4 h5' hh hl)
      | false => exact hgo (by unfold waitR; rw [if_neg hbad, if_neg hh', if_neg (by rw [hl]; decide)]) (fun e w' h => h) (wait_ok g n own M y m s k a b c rd nn ix st w hq (by omega) (by omega) h3 h4 h5' hh hl hL)

set_option maxHeartbeats 2000000 in
theorem rwrite_sep {w0 w : World} {l : List It} {g : Nat} {n own : Int} {M : List En} {y : Value} (hS : Sep w0 (mI g n own M y ++ l) w) (hL : M.length ≤ 8) (m s : Int) (k : Nat) (a b c : ByteArray) :
    Calls Try.prog 21 #[.pointer (some ⟨g, 0, none⟩), .agg #[.int .i64 m, .int .i64 s, .int .u8 (k : Nat), .string a, .string b, .string c]] w fun e w' => ∀ P, P = waitR M ⟨⟨m, s, ⟨k, a, b, c⟩⟩, false, 0, 0, 0⟩ → e = .returned (.tuple #[.bool P.1, .int .i64 P.2.1]) ∧ ∃ y', Sep w0 (mI g n own P.2.2 y' ++ l) w' := by
  have HB := Lib.hid (be1 w (.cells #[.int .i64 m, .int .i64 s, .int .u8 (k : Nat), .string a, .string b, .string c] 25))
  have HW := Lib.hid (wait_any g n own M y m s k a b c false 0 0 0 (w.alloc (.cells #[.int .i64 m, .int .i64 s, .int .u8 (k : Nat), .string a, .string b, .string c] 25)) (MAt.below (mI_at hS) (be1 _ _)) hL)
  have HS := Lib.hid hS
  clear hS
  go_enter Try.func21, Try.ntmps21
  go_wp2_with fail
  refine HW.out.mono ?_
  rintro e u h
  obtain ⟨P, hP⟩ : ∃ P, P = waitR M ⟨⟨m, s, ⟨k, a, b, c⟩⟩, false, 0, 0, 0⟩ := ⟨_, rfl⟩
  obtain ⟨rfl, h2⟩ := h P hP
  have HT := Lib.hid (MTo.after HB.out h2)
  have HP := Lib.hid hP
  clear h h2 hP HW
  go_wp2_with fail
  go_ret2
  intro P' hP'
  rw [← HP.out] at hP'
  subst hP'
  exact ⟨rfl, sep_m HS.out HT.out⟩

set_option maxRecDepth 100000 in
set_option maxHeartbeats 4000000 in
theorem rread_n1 {w0 w : World} {l : List It} {g : Nat} {n own : Int} {M : List En} {y : Value} (hS : Sep w0 (mI g n own M y ++ l) w) (hL : M.length ≤ 8) (m s : Int) (k : Nat) (a b c : ByteArray) (nn ix : Int) (h1 : numB 1 nn = false) :
    Calls Try.prog 22 #[.pointer (some ⟨g, 0, none⟩), .agg #[.int .i64 m, .int .i64 s, .int .u8 (k : Nat), .string a, .string b, .string c], .int .i64 nn, .int .i64 ix] w fun e w' => e = .returned (.tuple #[.bool false, .int .i64 2]) ∧ Below w.heap.size w w' := by
  have HB := Lib.hid (be1 w (.cells #[.int .i64 m, .int .i64 s, .int .u8 (k : Nat), .string a, .string b, .string c] 25))
  have HS := Lib.hid hS
  clear hS
  have WA := whole_any nn 1 (w.alloc (.cells #[.int .i64 m, .int .i64 s, .int .u8 (k : Nat), .string a, .string b, .string c] 25))
  rw [h1] at WA
  have WA := Lib.hid WA
  clear h1
  go_enter Try.func22, Try.ntmps22
  go_wp2_with fail
  refine WA.out.mono ?_
  rintro e u ⟨rfl, rfl⟩
  clear WA
  go_wp2_with fail
  go_ret2
  exact ⟨rfl, HB.out⟩

set_option maxRecDepth 100000 in
set_option maxHeartbeats 4000000 in
theorem rread_n2 {w0 w : World} {l : List It} {g : Nat} {n own : Int} {M : List En} {y : Value} (hS : Sep w0 (mI g n own M y ++ l) w) (hL : M.length ≤ 8) (m s : Int) (k : Nat) (a b c : ByteArray) (nn ix : Int) (h1 : numB 1 nn = true) (h2 : numB 0 ix = false) :
    Calls Try.prog 22 #[.pointer (some ⟨g, 0, none⟩), .agg #[.int .i64 m, .int .i64 s, .int .u8 (k : Nat), .string a, .string b, .string c], .int .i64 nn, .int .i64 ix] w fun e w' => e = .returned (.tuple #[.bool false, .int .i64 2]) ∧ Below w.heap.size w w' := by
  have HB := Lib.hid (be1 w (.cells #[.int .i64 m, .int .i64 s, .int .u8 (k : Nat), .string a, .string b, .string c] 25))
  have HS := Lib.hid hS
  clear hS
  have WA := whole_any nn 1 (w.alloc (.cells #[.int .i64 m, .int .i64 s, .int .u8 (k : Nat), .string a, .string b, .string c] 25))
  rw [h1] at WA
  have WA := Lib.hid WA
  clear h1
  go_enter Try.func22, Try.ntmps22
  go_wp2_with fail
  refine WA.out.mono ?_
  rintro e u ⟨rfl, rfl⟩
  clear WA
  have WB := whole_any ix 0 (w.alloc (.cells #[.int .i64 m, .int .i64 s, .int .u8 (k : Nat), .string a, .string b, .string c] 25))
  rw [h2] at WB
  have WB := Lib.hid WB
  clear h2
  go_wp2_with fail
  refine WB.out.mono ?_
  rintro e u ⟨rfl, rfl⟩
  clear WB
  go_wp2_with fail
  go_ret2
  exact ⟨rfl, HB.out⟩

set_option maxRecDepth 100000 in
set_option maxHeartbeats 4000000 in
theorem rread_ok {w0 w : World} {l : List It} {g : Nat} {n own : Int} {M : List En} {y : Value} (hS : Sep w0 (mI g n own M y ++ l) w) (hL : M.length ≤ 8) (m s : Int) (k : Nat) (a b c : ByteArray) (nn ix : Int) (h1 : numB 1 nn = true) (h2 : numB 0 ix = true) (h3 : 0 ≤ own) (h4 : own < 7) :
    Calls Try.prog 22 #[.pointer (some ⟨g, 0, none⟩), .agg #[.int .i64 m, .int .i64 s, .int .u8 (k : Nat), .string a, .string b, .string c], .int .i64 nn, .int .i64 ix] w fun e w' => ∀ P, P = waitR M ⟨⟨m, s, ⟨k, a, b, c⟩⟩, true, nn, ix, addN 0 own⟩ → e = .returned (.tuple #[.bool P.1, .int .i64 P.2.1]) ∧ ∃ y', Sep w0 (mI g n own P.2.2 y' ++ l) w' := by
  have HB := Lib.hid (be1 w (.cells #[.int .i64 m, .int .i64 s, .int .u8 (k : Nat), .string a, .string b, .string c] 25))
  have HS := Lib.hid hS
  clear hS
  have WA := whole_any nn 1 (w.alloc (.cells #[.int .i64 m, .int .i64 s, .int .u8 (k : Nat), .string a, .string b, .string c] 25))
  rw [h1] at WA
  have WA := Lib.hid WA
  clear h1
  go_enter Try.func22, Try.ntmps22
  go_wp2_with fail
  refine WA.out.mono ?_
  rintro e u ⟨rfl, rfl⟩
  clear WA
  have WB := whole_any ix 0 (w.alloc (.cells #[.int .i64 m, .int .i64 s, .int .u8 (k : Nat), .string a, .string b, .string c] 25))
  rw [h2] at WB
  have WB := Lib.hid WB
  clear h2
  go_wp2_with fail
  refine WB.out.mono ?_
  rintro e u ⟨rfl, rfl⟩
  clear WB
  have AD := Lib.hid (radd_int 0 (by omega) own h3 h4)
  have HSD := Lib.hid (((HS.out.alloc 25 [.int .i64 m, .int .i64 s, .int .u8 (k : Nat), .string a, .string b, .string c]).perm (List.perm_middle (a := .box w.heap.size 25 [.int .i64 m, .int .i64 s, .int .u8 (k : Nat), .string a, .string b, .string c]) (l₁ := mI g n own M y) (l₂ := l)).symm).drew)
  go_upto_region 3 with fail
  have SOF : Hid (∀ u : World, Hid (∃ (M2 : List En) (y2 : Value), Sep w0 (mI g n own M2 y2 ++ (.box w.heap.size 25 [.int .i64 m, .int .i64 s, .int .u8 (k : Nat), .string a, .string b, .string c] :: l)) u) → (fun u : World => (u.cell? ⟨w.heap.size, 0, none⟩ = some (.int .i64 m) ∧ u.cell? ⟨w.heap.size, 1, none⟩ = some (.int .i64 s) ∧ u.cell? ⟨w.heap.size, 2, none⟩ = some (.int .u8 (k : Nat)) ∧ u.cell? ⟨w.heap.size, 3, none⟩ = some (.string a) ∧ u.cell? ⟨w.heap.size, 4, none⟩ = some (.string b) ∧ u.cell? ⟨w.heap.size, 5, none⟩ = some (.string c) ∧ u.cell? ⟨g, 1, none⟩ = some (.int .i64 own)) ∧ Hid (∃ (M2 : List En) (y2 : Value), Sep w0 (mI g n own M2 y2 ++ (.box w.heap.size 25 [.int .i64 m, .int .i64 s, .int .u8 (k : Nat), .string a, .string b, .string c] :: l)) u)) u) := fun u h => by
    obtain ⟨M2, y2, hs⟩ := h.out
    have hbx : Whole u w.heap.size 25 [.int .i64 m, .int .i64 s, .int .u8 (k : Nat), .string a, .string b, .string c] := hs.right.head
    have hqq : Whole u g 75 [.int .i64 n, .int .i64 own, y2] := hs.head
    exact ⟨⟨hbx.cell 0, hbx.cell 1, hbx.cell 2, hbx.cell 3, hbx.cell 4, hbx.cell 5, hqq.cell 1⟩, h⟩
  refine wp_region_held_drew (S := (fun u : World => (u.cell? ⟨w.heap.size, 0, none⟩ = some (.int .i64 m) ∧ u.cell? ⟨w.heap.size, 1, none⟩ = some (.int .i64 s) ∧ u.cell? ⟨w.heap.size, 2, none⟩ = some (.int .u8 (k : Nat)) ∧ u.cell? ⟨w.heap.size, 3, none⟩ = some (.string a) ∧ u.cell? ⟨w.heap.size, 4, none⟩ = some (.string b) ∧ u.cell? ⟨w.heap.size, 5, none⟩ = some (.string c) ∧ u.cell? ⟨g, 1, none⟩ = some (.int .i64 own)) ∧ Hid (∃ (M2 : List En) (y2 : Value), Sep w0 (mI g n own M2 y2 ++ (.box w.heap.size 25 [.int .i64 m, .int .i64 s, .int .u8 (k : Nat), .string a, .string b, .string c] :: l)) u))) (by kernel_rfl) (SOF.out _ (Lib.hid ⟨M, y, HSD.out⟩)) (fun HS => ?_)
  refine handTake 0 (some 18) ?_ rfl rfl (by kernel_rfl) (by kernel_rfl) (by kernel_rfl) (fun _ _ _ h => h) (by rfl) ?_ HS ?_
  rotate_left
  · (intro u hu; (try dsimp only at hu); go_simp; try with_reducible rfl)
  simp only [Act.put, List.setIfInBounds_toArray, List.set_cons_zero, List.set_cons_succ]
  refine handTake 1 (some 19) ?_ rfl rfl (by kernel_rfl) (by kernel_rfl) (by kernel_rfl) (fun _ _ _ h => h) (by rfl) ?_ HS ?_
  rotate_left
  · (intro u hu; (try dsimp only at hu); go_simp; try with_reducible rfl)
  simp only [Act.put, List.setIfInBounds_toArray, List.set_cons_zero, List.set_cons_succ]
  refine handTake 2 (some 20) ?_ rfl rfl (by kernel_rfl) (by kernel_rfl) (by kernel_rfl) (fun _ _ _ h => h) (by rfl) ?_ HS ?_
  rotate_left
  · (intro u hu; (try dsimp only at hu); go_simp; try with_reducible rfl)
  simp only [Act.put, List.setIfInBounds_toArray, List.set_cons_zero, List.set_cons_succ]
  refine handTake 3 (some 21) ?_ rfl rfl (by kernel_rfl) (by kernel_rfl) (by kernel_rfl) (fun _ _ _ h => h) (by rfl) ?_ HS ?_
  rotate_left
  · (intro u hu; (try dsimp only at hu); go_simp; try with_reducible rfl)
  simp only [Act.put, List.setIfInBounds_toArray, List.set_cons_zero, List.set_cons_succ]
  refine handTake 4 (some 22) ?_ rfl rfl (by kernel_rfl) (by kernel_rfl) (by kernel_rfl) (fun _ _ _ h => h) (by rfl) ?_ HS ?_
  rotate_left
  · (intro u hu; (try dsimp only at hu); go_simp; try with_reducible rfl)
  simp only [Act.put, List.setIfInBounds_toArray, List.set_cons_zero, List.set_cons_succ]
  refine handTake 5 (some 23) ?_ rfl rfl (by kernel_rfl) (by kernel_rfl) (by kernel_rfl) (fun _ _ _ h => h) (by rfl) ?_ HS ?_
  rotate_left
  · (intro u hu; (try dsimp only at hu); go_simp; try with_reducible rfl)
  simp only [Act.put, List.setIfInBounds_toArray, List.set_cons_zero, List.set_cons_succ]
  refine handTake 6 (some 24) ?_ rfl rfl (by kernel_rfl) (by kernel_rfl) (by kernel_rfl) (fun _ _ _ h => h) (by rfl) ?_ HS ?_
  rotate_left
  · (intro u hu; (try dsimp only at hu); go_simp; try with_reducible rfl)
  simp only [Act.put, List.setIfInBounds_toArray, List.set_cons_zero, List.set_cons_succ]
  refine handTake 7 (some 25) ?_ rfl rfl (by kernel_rfl) (by kernel_rfl) (by kernel_rfl) (fun _ _ _ h => h) (by rfl) ?_ HS ?_
  rotate_left
  · (intro u hu; (try dsimp only at hu); go_simp; try with_reducible rfl)
  simp only [Act.put, List.setIfInBounds_toArray, List.set_cons_zero, List.set_cons_succ]
  refine wpAnyH_ready (rs := [8]) (by kernel_rfl) (by simp) ?_
  refine AllReadyH.cons rfl (fun K hK => ?_) AllReadyH.nil
  go_simp
  have HC0 := Lib.hid HS.2.out
  clear HS
  refine (AD.out _).mono ?_
  rintro e9 u90 ⟨rfl, rfl⟩
  go_wp2_with fail
  refine hK.out _ _ (SOF.out _ HC0) (fun HS => ?_)
  clear hK
  try simp only [Act.put, List.setIfInBounds_toArray, List.set_cons_zero, List.set_cons_succ]
  refine handTake 9 (some 27) ?_ rfl rfl (by kernel_rfl) (by kernel_rfl) (by kernel_rfl) (fun _ _ _ h => h) (by rfl) ?_ HS ?_
  rotate_left
  · (intro u hu; (try dsimp only at hu); go_simp; try with_reducible rfl)
  simp only [Act.put, List.setIfInBounds_toArray, List.set_cons_zero, List.set_cons_succ]
  refine wpAnyH_ready (rs := [10]) (by kernel_rfl) (by simp) ?_
  refine AllReadyH.cons rfl (fun K hK => ?_) AllReadyH.nil
  go_simp
  clear HS
  refine (wait_any g n own M y m s k a b c true nn ix (addN 0 own) _ (mI_at HSD.out) hL).mono ?_
  rintro e9 u91 h
  obtain ⟨P, hP⟩ : ∃ P, P = waitR M ⟨⟨m, s, ⟨k, a, b, c⟩⟩, true, nn, ix, addN 0 own⟩ := ⟨_, rfl⟩
  obtain ⟨rfl, h2⟩ := h P hP
  have HT := Lib.hid (sep_m HSD.out h2)
  have HP := Lib.hid hP
  clear h h2 hP
  have HC1 : Hid (∃ (M2 : List En) (y2 : Value), Sep w0 (mI g n own M2 y2 ++ (.box w.heap.size 25 [.int .i64 m, .int .i64 s, .int .u8 (k : Nat), .string a, .string b, .string c] :: l)) u91) := ⟨_, HT.out⟩
  go_wp2_with fail
  refine hK.out _ _ (SOF.out _ HC1) (fun HS => ?_)
  clear hK
  try simp only [Act.put, List.setIfInBounds_toArray, List.set_cons_zero, List.set_cons_succ]
  refine handTake 11 (some 29) ?_ rfl rfl (by kernel_rfl) (by kernel_rfl) (by kernel_rfl) (fun _ _ _ h => h) (by rfl) ?_ HS ?_
  rotate_left
  · (intro u hu; (try dsimp only at hu); go_simp; try with_reducible rfl)
  simp only [Act.put, List.setIfInBounds_toArray, List.set_cons_zero, List.set_cons_succ]
  refine handTake 12 (some 30) ?_ rfl rfl (by kernel_rfl) (by kernel_rfl) (by kernel_rfl) (fun _ _ _ h => h) (by rfl) ?_ HS ?_
  rotate_left
  · (intro u hu; (try dsimp only at hu); go_simp; try with_reducible rfl)
  simp only [Act.put, List.setIfInBounds_toArray, List.set_cons_zero, List.set_cons_succ]
  refine handTake 13 (some 8) ?_ rfl rfl (by kernel_rfl) (by kernel_rfl) (by kernel_rfl) (fun _ _ _ h => h) (by rfl) ?_ HS ?_
  rotate_left
  · (intro u hu; (try dsimp only at hu); go_simp; try with_reducible rfl)
  simp only [Act.put, List.setIfInBounds_toArray, List.set_cons_zero, List.set_cons_succ]
  refine handTake 14 (some 9) ?_ rfl rfl (by kernel_rfl) (by kernel_rfl) (by kernel_rfl) (fun _ _ _ h => h) (by rfl) ?_ HS ?_
  rotate_left
  · (intro u hu; (try dsimp only at hu); go_simp; try with_reducible rfl)
  simp only [Act.put, List.setIfInBounds_toArray, List.set_cons_zero, List.set_cons_succ]
  refine wpAnyH_done (by kernel_rfl) ?_ _
  clear HS SOF
  go_wp2_with fail
  go_ret2
  intro P' hP'
  rw [← HP.out] at hP'
  subst hP'
  obtain ⟨y', h⟩ := HT.out
  exact ⟨rfl, y', h.sub (List.Sublist.append (List.Sublist.refl _) (List.sublist_cons_self _ _))⟩

def rreadR (own : Int) (M : List En) (r : Rq) (nn ix : Int) : Bool × Int × List En := if numB 1 nn && numB 0 ix then waitR M ⟨r, true, nn, ix, addN 0 own⟩ else (false, 2, M)
theorem rread_sep {w0 w : World} {l : List It} {g : Nat} {n own : Int} {M : List En} {y : Value} (hS : Sep w0 (mI g n own M y ++ l) w) (hL : M.length ≤ 8) (m s : Int) (k : Nat) (a b c : ByteArray) (nn ix : Int) (h3 : 0 ≤ own) (h4 : own < 7) :
    Calls Try.prog 22 #[.pointer (some ⟨g, 0, none⟩), .agg #[.int .i64 m, .int .i64 s, .int .u8 (k : Nat), .string a, .string b, .string c], .int .i64 nn, .int .i64 ix] w fun e w' => ∀ P, P = rreadR own M ⟨m, s, ⟨k, a, b, c⟩⟩ nn ix → e = .returned (.tuple #[.bool P.1, .int .i64 P.2.1]) ∧ ∃ y', Sep w0 (mI g n own P.2.2 y' ++ l) w' := by
  unfold rreadR
  cases h1 : numB 1 nn with
  | false => exact (rread_n1 hS hL m s k a b c nn ix h1).mono fun e w' h P hP => by subst hP; exact ⟨h.1, y, hS.call h.2⟩
  | true =>
    cases h2 : numB 0 ix with
    | false => exact (rread_n2 hS hL m s k a b c nn ix h1 h2).mono fun e w' h P hP => by subst hP; exact ⟨h.1, y, hS.call h.2⟩
    | true => exact rread_ok hS hL m s k a b c nn ix h1 h2 h3 h4

end Qu
end Go.Proofs.Ytinnpeonokdljaa
