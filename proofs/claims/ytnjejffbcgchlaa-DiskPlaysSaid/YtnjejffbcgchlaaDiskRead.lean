/- What is read of a disk: Waits, Up, Read, Rest, Meant. -/
import Derived.Test.YtnjejffbcgchlaaDiskWalks
set_option linter.unusedSimpArgs false
set_option linter.unusedVariables false
namespace Go.Proofs.Ytnjejffbcgchlaa
open Go.RowKit
theorem Sep.last {w0 u u' : World} {l : List It} (h : Sep w0 l u) (hx : Below u.heap.size u u') {e : TypeId} {K : Nat} {v : Value} {n : Nat} {xs : List Value} (hr : u'.ownsRow u.heap.size e K v n xs) : Sep w0 (l ++ [.row w0.heap.size e K v n xs]) u' := by
  have hb : u'.ownsRow w0.heap.size e K v n xs := by
    refine ⟨hr.1, hr.2.imp id ?_⟩
    rintro ⟨g, cap, cur, h1, h2, r⟩
    exact ⟨g, cap, cur, h1, Nat.le_trans h.size h2, r⟩
  exact (h.add hx (.row w0.heap.size e K v n xs) hb (fun k hk => (own_lt hr hk).1)).perm (List.perm_append_singleton _ _).symm
theorem Sep.lastNil {w0 u : World} {l : List It} (h : Sep w0 l u) (e : TypeId) (K : Nat) : Sep w0 (l ++ [.row w0.heap.size e K (.slice none 0 0) 0 []]) u :=
  (h.empty w0.heap.size e K).perm (List.perm_append_singleton _ _).symm
theorem Sep.lastA {w0 u u' : World} {a l : List It} (h : Sep w0 (a ++ l) u) (hx : Below u.heap.size u u') {e : TypeId} {K : Nat} {v : Value} {n : Nat} {xs : List Value} (hr : u'.ownsRow u.heap.size e K v n xs) : Sep w0 (a ++ (l ++ [.row w0.heap.size e K v n xs])) u' := by
  rw [← List.append_assoc]; exact h.last hx hr
theorem Sep.lastNilA {w0 u : World} {a l : List It} (h : Sep w0 (a ++ l) u) (e : TypeId) (K : Nat) : Sep w0 (a ++ (l ++ [.row w0.heap.size e K (.slice none 0 0) 0 []])) u := by
  rw [← List.append_assoc]; exact h.lastNil e K
namespace Di

theorem own_elem {α : Type} {f : α → List Value} {K : Nat} (hf : ∀ a, (f a).length = K) {w : World} {base : Nat} {e : TypeId} {g cap : Nat} {l : List α} (h : w.ownsRow base e K (.slice (some ⟨g, 0, none⟩) l.length cap) l.length (l.flatMap f))
    {k : Nat} (hk : k < l.length) {j : Nat} (hj : j < K) : w.cell? ⟨g, k * K + j, none⟩ = (f l[k])[j]? := by
  have hlt : k * K + j < l.length * K := by
    have : (k + 1) * K ≤ l.length * K := Nat.mul_le_mul_right _ hk
    rw [Nat.succ_mul] at this
    omega
  rw [h.cellAt _ hlt]
  exact flat_at hf l k j l[k] (List.getElem?_eq_getElem hk) hj
theorem pl_rest {w : World} {base g cap : Nat} {l : List Pl} (h : w.ownsRow base 82 129 (.slice (some ⟨g, 0, none⟩) l.length cap) l.length (l.flatMap plC)) {k : Nat} (hk : k < l.length) : w.rangeAt g (k * 129) (secC l[k].rest) := fun j v hv => by
  have hj : j < 64 := by obtain ⟨h', _⟩ := List.getElem?_eq_some_iff.1 hv; rwa [secC_len] at h'
  rw [own_elem plC_len h hk (by omega), plC, List.getElem?_append_left (by rw [secC_len]; exact hj)]
  exact hv
theorem pl_meant {w : World} {base g cap : Nat} {l : List Pl} (h : w.ownsRow base 82 129 (.slice (some ⟨g, 0, none⟩) l.length cap) l.length (l.flatMap plC)) {k : Nat} (hk : k < l.length) : w.rangeAt g (k * 129 + 64) (secC l[k].meant) := fun j v hv => by
  have hj : j < 64 := by obtain ⟨h', _⟩ := List.getElem?_eq_some_iff.1 hv; rwa [secC_len] at h'
  rw [Nat.add_assoc, own_elem plC_len h hk (by omega), plC, List.getElem?_append_right (by rw [secC_len]; omega), secC_len, Nat.add_sub_cancel_left, List.getElem?_append_left (by rw [secC_len]; exact hj)]
  exact hv
theorem pl_lost {w : World} {base g cap : Nat} {l : List Pl} (h : w.ownsRow base 82 129 (.slice (some ⟨g, 0, none⟩) l.length cap) l.length (l.flatMap plC)) {k : Nat} (hk : k < l.length) : w.cell? ⟨g, k * 129 + 128, none⟩ = some (.bool l[k].lost) := by
  rw [own_elem plC_len h hk (by omega), plC, List.getElem?_append_right (by rw [secC_len]; omega), secC_len, List.getElem?_append_right (by rw [secC_len]; omega), secC_len]
  rfl
theorem wr_bytes {w : World} {base g cap : Nat} {l : List Wr} (h : w.ownsRow base 76 65 (.slice (some ⟨g, 0, none⟩) l.length cap) l.length (l.flatMap wrC)) {k : Nat} (hk : k < l.length) : w.rangeAt g (k * 65) (secC l[k].bytes) := fun j v hv => by
  have hj : j < 64 := by obtain ⟨h', _⟩ := List.getElem?_eq_some_iff.1 hv; rwa [secC_len] at h'
  rw [own_elem wrC_len h hk (by omega), wrC, List.getElem?_append_left (by rw [secC_len]; exact hj)]
  exact hv
theorem wr_sector {w : World} {base g cap : Nat} {l : List Wr} (h : w.ownsRow base 76 65 (.slice (some ⟨g, 0, none⟩) l.length cap) l.length (l.flatMap wrC)) {k : Nat} (hk : k < l.length) : w.cell? ⟨g, k * 65 + 64, none⟩ = some (.int .i64 (l[k].sector : Int)) := by
  rw [own_elem wrC_len h hk (by omega), wrC, List.getElem?_append_right (by rw [secC_len]; omega), secC_len]
  rfl
theorem at_get {d : Dk} {s : Int} (hi : inn d s = true) : ∃ h : s.toNat < d.places.length, d.at_ s = d.places[s.toNat] := by
  obtain ⟨h1, h2⟩ := inn_at hi
  have h : s.toNat < d.places.length := by omega
  refine ⟨h, ?_⟩
  unfold Dk.at_
  rw [List.getElem?_eq_getElem h]
  rfl
theorem info_bsize : (Try.prog.info? 74).map (·.size) = some 64 := by kernel_rfl
theorem wpList_loadSec {ops : Array Oper} {rest : List Oper} {op : Oper} {a : Act} {w : World} {Q : Exit → Act → World → Prop} (hgd : op.guard = none) (x : Operand) (ho : op.op = .load 74 x)
    (g o : Nat) (hx : a.eval x = .pointer (some ⟨g, o, none⟩)) (s : Sec) (h : w.rangeAt g o (secC s)) (hk : wpList Try.prog ops Q rest (a.put op.dst (.agg (secC s).toArray)) w) : wpList Try.prog ops Q (op :: rest) a w :=
  wpList_load_mid hgd 74 x ho g o hx (secC s) _ h Try.underlying74 rfl (by rw [secC_len]; exact info_bsize) hk

/-- Behind: what is told, in memory of its own. -/
def rowB (base : Nat) (v : Value) (l : List Int) : It := .row base 5 1 v l.length (u8s l)

set_option maxHeartbeats 400000 in
theorem waits_is (d : Dk) (ho : Ok d) (b : Nat) (pv wv : Value) {w0 : World} {base : Nat} {l : List It} (w : World) (hS : Sep w0 (dI base b pv wv d ++ l) w) :
    Calls Try.prog 14 #[.pointer (some ⟨b, 0, none⟩)] w fun e w' => e = .returned (.int .i64 d.waits.length) ∧ w = w' := by
  obtain ⟨gb, c, rfl⟩ := dI_pv hS ho.some
  obtain ⟨A, c', rfl, _, _⟩ := (Row.of_own (dI_waits hS)).slice
  have hW := dI_box hS
  have c0 := hW.cell 0; have c1 := hW.cell 1
  simp only [dkC, List.getElem?_cons_zero, List.getElem?_cons_succ] at c0 c1
  have C := Lib.hid (size_is b _ _ _ w c0)
  have hne : ((d.places.length : Int) == 0) = false := by rw [beq_eq_false_iff_ne]; have := ho.some; omega
  clear hS hW ho
  go_enter Try.func14, Try.ntmps14
  go_wp2_with fail
  refine C.out.mono ?_
  rintro e u ⟨rfl, rfl⟩
  go_wp2_with fail
  go_ret
  exact ⟨rfl, rfl⟩
set_option maxHeartbeats 400000 in
theorem up_is (d : Dk) (ho : Ok d) (b : Nat) (pv wv : Value) {w0 : World} {base : Nat} {l : List It} (w : World) (hS : Sep w0 (dI base b pv wv d ++ l) w) :
    Calls Try.prog 16 #[.pointer (some ⟨b, 0, none⟩)] w fun e w' => e = .returned (.bool d.up) ∧ w = w' := by
  obtain ⟨gb, c, rfl⟩ := dI_pv hS ho.some
  have hW := dI_box hS
  have c0 := hW.cell 0; have c2 := hW.cell 2; have c3 := hW.cell 3
  simp only [dkC, List.getElem?_cons_zero, List.getElem?_cons_succ] at c0 c2 c3
  have C := Lib.hid (size_is b _ _ _ w c0)
  obtain ⟨N, hN⟩ : ∃ N, d.places.length = N := ⟨_, rfl⟩
  have hpos : 0 < N := hN ▸ ho.some
  rw [hN] at c0 C
  obtain ⟨ps, L, dn, dd, lf⟩ := d
  dsimp only at c2 c3
  clear hN
  have hz : decide (0 < (N : Int)) = true := by rw [decide_eq_true_eq]; omega
  clear hS hW ho
  cases dn <;> cases dd <;> (
    go_enter Try.func16, Try.ntmps16
    go_wp2_with fail
    refine C.out.mono ?_
    rintro e u ⟨rfl, rfl⟩
    go_wp2_with fail
    go_ret
    exact ⟨rfl, rfl⟩)

theorem there_one {d : Dk} {s : Int} : thereE d [s] = if inn d s then 0 else 2 := by simp [thereE]
set_option maxHeartbeats 1000000 in
theorem meant_is (d : Dk) (ho : Ok d) (s : Int) (b : Nat) (pv wv : Value) {w0 : World} {l : List It} (w : World) (hS : Sep w0 (dI w0.heap.size b pv wv d ++ l) w) :
    Calls Try.prog 24 #[.pointer (some ⟨b, 0, none⟩), .int .i64 s] w fun e w' => ∃ v, e = .returned (.tuple #[v, .int .i64 (thereE d [s])]) ∧ Sep w0 (dI w0.heap.size b pv wv d ++ (l ++ [rowB w0.heap.size v (meantV d s)])) w' := by
  obtain ⟨gb, c, rfl⟩ := dI_pv hS ho.some
  have hS1 := hS.fresh (.cells #[.int .i64 s] 3)
  have hW := dI_box hS1
  have c0 := hW.cell 0
  simp only [dkC, List.getElem?_cons_zero] at c0
  have T := Lib.hid (there_is [s] d ho.some b (w.heap.size + 1) _ _ _ _ c0 (Row.blk (Whole.new w 3 [.int .i64 s]) rfl (by omega) (by simp [maxLen])))
  have HS := Lib.hid hS1
  have HP := Lib.hid (dI_places hS1)
  have HL := Lib.hid ho
  clear hS hS1 hW ho
  rw [there_one] at T ⊢
  cases hin : inn d s
  · have hE : Hid (meantV d s = []) := by show meantV d s = []; unfold meantV; rw [hin]; rfl
    rw [hin] at T
    simp only [Bool.false_eq_true, if_false] at T ⊢
    go_enter Try.func24, Try.ntmps24
    go_wp2_with fail
    refine T.out.mono ?_
    rintro e u ⟨rfl, rfl⟩
    go_wp2_with fail
    go_ret2
    refine ⟨_, rfl, ?_⟩
    rw [hE.out]
    exact HS.out.lastNilA _ _
  · obtain ⟨hk, ha⟩ := at_get hin
    obtain ⟨h1, h2⟩ := inn_at hin
    have hE : Hid (meantV d s = d.places[s.toNat].meant.l) := by show meantV d s = _; unfold meantV; rw [hin, ha]; rfl
    have hM := Lib.hid (pl_meant HP.out hk)
    generalize d.places[s.toNat] = p at *
    rw [hin] at T
    simp only [if_true] at T ⊢
    clear ha hin
    go_enter Try.func24, Try.ntmps24
    go_wp2_with fail
    refine T.out.mono ?_
    rintro e u ⟨rfl, rfl⟩
    go_wp2_with (first
      | (with_reducible refine wpList_loadSec rfl (.tmp 20) rfl gb _ rfl p.meant hM.out ?_))
    refine (own_is _ _).mono ?_
    rintro e u ⟨v, rfl, hr, hb⟩
    go_wp2_with fail
    go_ret2
    refine ⟨_, rfl, ?_⟩
    rw [hE.out]
    exact HS.out.lastA hb (by rw [p.meant.h]; exact hr)

set_option maxHeartbeats 2000000 in
theorem rest_is (d : Dk) (ho : Ok d) (s : Int) (b : Nat) (pv wv : Value) {w0 : World} {l : List It} (w : World) (hS : Sep w0 (dI w0.heap.size b pv wv d ++ l) w) :
    Calls Try.prog 26 #[.pointer (some ⟨b, 0, none⟩), .int .i64 s] w fun e w' => ∃ v, e = .returned (.tuple #[v, .bool (restL d s), .int .i64 (thereE d [s])]) ∧ Sep w0 (dI w0.heap.size b pv wv d ++ (l ++ [rowB w0.heap.size v (restV d s)])) w' := by
  obtain ⟨gb, c, rfl⟩ := dI_pv hS ho.some
  have hS1 := hS.fresh (.cells #[.int .i64 s] 3)
  have hW := dI_box hS1
  have c0 := hW.cell 0
  simp only [dkC, List.getElem?_cons_zero] at c0
  have T := Lib.hid (there_is [s] d ho.some b (w.heap.size + 1) _ _ _ _ c0 (Row.blk (Whole.new w 3 [.int .i64 s]) rfl (by omega) (by simp [maxLen])))
  have HS := Lib.hid hS1
  have HP := Lib.hid (dI_places hS1)
  have HL := Lib.hid ho
  clear hS hS1 hW ho
  rw [there_one] at T ⊢
  cases hin : inn d s
  · have hE : Hid (restV d s = []) := by show restV d s = []; unfold restV; rw [hin]; rfl
    have hL : restL d s = false := by unfold restL; rw [hin]; rfl
    rw [hin] at T
    rw [hL]
    clear hL
    simp only [Bool.false_eq_true, if_false] at T ⊢
    go_enter Try.func26, Try.ntmps26
    go_wp2_with fail
    refine T.out.mono ?_
    rintro e u ⟨rfl, rfl⟩
    go_wp2_with fail
    go_ret3
    refine ⟨_, rfl, ?_⟩
    rw [hE.out]
    exact HS.out.lastNilA _ _
  · obtain ⟨hk, ha⟩ := at_get hin
    obtain ⟨h1, h2⟩ := inn_at hin
    have hM := Lib.hid (pl_rest HP.out hk)
    have hZ := pl_lost HP.out hk
    have hE : Hid (restV d s = if d.places[s.toNat].lost then [] else d.places[s.toNat].rest.l) := by show restV d s = _; unfold restV; rw [hin, ha]; rfl
    have hL : restL d s = d.places[s.toNat].lost := by unfold restL; rw [hin, ha]; rfl
    rw [hL]
    clear hL
    generalize d.places[s.toNat] = p at *
    rw [hin] at T
    simp only [if_true] at T ⊢
    clear ha hin
    obtain ⟨pr, pm, plo⟩ := p
    dsimp only at *
    cases plo
    · go_enter Try.func26, Try.ntmps26
      go_wp2_with fail
      refine T.out.mono ?_
      rintro e u ⟨rfl, rfl⟩
      go_wp2_with (first
        | (with_reducible refine wpList_loadSec rfl (.tmp 29) rfl gb _ rfl pr hM.out ?_))
      refine (own_is _ _).mono ?_
      rintro e u ⟨v, rfl, hr, hb⟩
      go_wp2_with fail
      go_ret3
      refine ⟨_, rfl, ?_⟩
      rw [hE.out]
      exact HS.out.lastA hb (by show World.ownsRow _ _ _ _ _ pr.l.length _; rw [pr.h]; exact hr)
    · go_enter Try.func26, Try.ntmps26
      go_wp2_with fail
      refine T.out.mono ?_
      rintro e u ⟨rfl, rfl⟩
      go_wp2_with fail
      go_ret3
      refine ⟨_, rfl, ?_⟩
      rw [hE.out]
      exact HS.out.lastNilA _ _

theorem live_one {d : Dk} {s : Int} : liveE d [s] = if d.up then (if inn d s then 0 else 2) else 5 := by unfold liveE; rw [there_one]
/-- The last write of a sector among the first ones. -/
theorem last_none {L : List Wr} {s : Nat} {k : Nat} (h : ∀ j, (hj : j < L.length) → k ≤ j → L[j].sector ≠ s) (hk : k = 0) : lastW L s = none := by
  unfold lastW
  rw [Option.map_eq_none_iff, List.find?_eq_none]
  intro x hx
  obtain ⟨j, hj, rfl⟩ := List.mem_iff_getElem.1 (List.mem_reverse.1 hx)
  have := h j hj (by omega)
  simpa using this
theorem find_rev {α : Type} (p : α → Bool) : ∀ (L : List α) (k : Nat) (hk : k < L.length), p L[k] = true → (∀ j, (hj : j < L.length) → k < j → p L[j] = false) → L.reverse.find? p = some L[k]
  | [], k, hk, _, _ => by simp at hk
  | a :: L, 0, hk, hp, hn => by
    rw [List.reverse_cons, List.find?_append]
    have : L.reverse.find? p = none := by
      rw [List.find?_eq_none]
      intro x hx
      obtain ⟨j, hj, rfl⟩ := List.mem_iff_getElem.1 (List.mem_reverse.1 hx)
      have := hn (j + 1) (by simpa using hj) (by omega)
      simpa using this
    rw [this]
    simpa using hp
  | a :: L, k + 1, hk, hp, hn => by
    rw [List.reverse_cons, List.find?_append, find_rev p L k (by simpa using hk) hp (fun j hj h => hn (j + 1) (by simpa using hj) (by omega))]
    rfl
theorem last_at {L : List Wr} {s : Nat} {k : Nat} (hk : k < L.length) (h : ∀ j, (hj : j < L.length) → k + 1 ≤ j → L[j].sector ≠ s) (he : L[k].sector = s) : lastW L s = some L[k].bytes := by
  unfold lastW
  rw [find_rev _ L k hk (by simpa using he) (fun j hj hlt => by simpa using h j hj hlt)]
  rfl

set_option maxHeartbeats 2000000 in
theorem read_is (d : Dk) (ho : Ok d) (s : Int) (b : Nat) (pv wv : Value) {w0 : World} {l : List It} (w : World) (hS : Sep w0 (dI w0.heap.size b pv wv d ++ l) w) :
    Calls Try.prog 23 #[.pointer (some ⟨b, 0, none⟩), .int .i64 s] w fun e w' => ∃ v, e = .returned (.tuple #[v, .int .i64 (readE d s)]) ∧ Sep w0 (dI w0.heap.size b pv wv d ++ (l ++ [rowB w0.heap.size v (readV d s)])) w' := by
  have hS1 := hS.fresh (.cells #[.int .i64 s] 3)
  have T := Lib.hid (live_is [s] d ho b (w.heap.size + 1) pv wv _ _ hS1 (Row.blk (Whole.new w 3 [.int .i64 s]) rfl (by omega) (by simp [maxLen])))
  obtain ⟨gb, c, rfl⟩ := dI_pv hS ho.some
  obtain ⟨A, c', rfl, hc1, hc2⟩ := (Row.of_own (dI_waits hS)).slice
  have hW := dI_box hS1
  have c0 := hW.cell 0; have c1 := hW.cell 1
  simp only [dkC, List.getElem?_cons_zero, List.getElem?_cons_succ] at c0 c1
  have HS := Lib.hid hS1
  have HP := Lib.hid (dI_places hS1)
  have HQ := Lib.hid (dI_waits hS1)
  have HL := Lib.hid ho
  clear hS hS1 hW
  rw [live_one] at T
  cases hup : d.up
  · have hE : Hid (readV d s = []) := by show readV d s = []; unfold readV; rw [hup]; rfl
    have hL : readE d s = 5 := by unfold readE; rw [hup]; rfl
    rw [hup] at T
    rw [hL]
    clear hL ho
    simp only [Bool.false_eq_true, if_false] at T
    go_enter Try.func23, Try.ntmps23
    go_wp2_with fail
    refine T.out.mono ?_
    rintro e u ⟨rfl, rfl⟩
    go_wp2_with fail
    go_ret2
    refine ⟨_, rfl, ?_⟩
    rw [hE.out]
    exact HS.out.lastNilA _ _
  cases hin : inn d s
  · have hE : Hid (readV d s = []) := by show readV d s = []; unfold readV; rw [hup, hin]; rfl
    have hL : readE d s = 2 := by unfold readE; rw [hup, hin]; rfl
    rw [hup, hin] at T
    rw [hL]
    clear hL ho
    simp only [Bool.false_eq_true, if_false, if_true] at T
    go_enter Try.func23, Try.ntmps23
    go_wp2_with fail
    refine T.out.mono ?_
    rintro e u ⟨rfl, rfl⟩
    go_wp2_with fail
    go_ret2
    refine ⟨_, rfl, ?_⟩
    rw [hE.out]
    exact HS.out.lastNilA _ _
  obtain ⟨hk, ha⟩ := at_get hin
  obtain ⟨h1, h2⟩ := inn_at hin
  have hM := Lib.hid (pl_rest HP.out hk)
  have hZ := pl_lost HP.out hk
  have hE : Hid (readV d s = match lastW d.waits s.toNat with | some b => b.l | none => if d.places[s.toNat].lost then [] else d.places[s.toNat].rest.l) := by show readV d s = _; unfold readV; rw [hup, hin, ha]; rfl
  have hF : Hid (readE d s = match lastW d.waits s.toNat with | some _ => 0 | none => if d.places[s.toNat].lost then 50 else 0) := by show readE d s = _; unfold readE; rw [hup, hin, ha]; rfl
  generalize d.places[s.toNat] = p at *
  rw [hup, hin] at T
  simp only [if_true] at T
  have HA := Lib.hid ha
  clear ha hin hup ho
  obtain ⟨M, hMl⟩ : ∃ M, d.waits.length = M := ⟨_, rfl⟩
  have hMm : M ≤ 9223372036854775807 := by unfold maxLen at hc2; omega
  rw [hMl] at c1
  have HM := Lib.hid hMl
  clear hMl
  go_enter Try.func23, Try.ntmps23
  go_wp2_with fail
  refine T.out.mono ?_
  rintro e u ⟨rfl, rfl⟩
  go_wp2_with fail
  go_loopw [7] (fun i wr => ∃ k : Nat, k ≤ M ∧ i = .int .i64 ((k : Int) - 1) ∧ (∀ j, (hj : j < d.waits.length) → k ≤ j → d.waits[j].sector ≠ s.toNat) ∧ wr = w.alloc (.cells #[.int .i64 s] 3)) (fun i _ => (intOf i + 1).toNat)
  case atStart => exact ⟨M, Nat.le_refl _, rfl, fun j hj h => by have := HM.out; omega, rfl⟩
  case round =>
    obtain ⟨k, hk', rfl, hno, rfl⟩ := hrel
    have HN := Lib.hid hno; clear hno
    rcases k with _ | k
    · have hE2 := hE.out
      have hF2 := hF.out
      rw [last_none HN.out rfl] at hE2 hF2
      have HE2 := Lib.hid hE2
      clear hE2 hE hF HN
      obtain ⟨pr, pm, plo⟩ := p
      dsimp only at *
      have HF2 := Lib.hid hF2; clear hF2
      have hg : decide ((0 : Int) ≤ ((0 : Nat) : Int) - 1) = false := rfl
      cases plo
      · go_wp2_with (first
          | (with_reducible refine wpList_loadSec rfl (.tmp 58) rfl gb _ rfl pr hM.out ?_))
        refine (own_is _ _).mono ?_
        rintro e u ⟨v, rfl, hr, hb⟩
        go_wp2_with fail
        go_ret2
        refine ⟨_, by rw [HF2.out]; rfl, ?_⟩
        rw [HE2.out]
        exact HS.out.lastA hb (by show World.ownsRow _ _ _ _ _ pr.l.length _; rw [pr.h]; exact hr)
      · go_wp2_with fail
        go_ret2
        refine ⟨_, by rw [HF2.out]; rfl, ?_⟩
        rw [HE2.out]
        exact HS.out.lastNilA _ _
    · have hkl : k < d.waits.length := by have := HM.out; omega
      obtain ⟨rb, c2, hv, _⟩ := own_form HQ.out (by omega)
      injection hv with hv1 _ hv2
      subst hv1 hv2
      have hB := Lib.hid (wr_bytes HQ.out hkl)
      have hs := wr_sector HQ.out hkl
      have hi1 : (((k + 1 : Nat) : Int) - 1) = (k : Int) := by omega
      rw [hi1]
      have hk0 : (0 : Int) ≤ (k : Int) := by omega
      have hk1 : (k : Int) < (M : Int) := by omega
      by_cases he : d.waits[k].sector = s.toNat
      · have hE2 := hE.out
        have hF2 := hF.out
        rw [last_at hkl HN.out he] at hE2 hF2
        have HE2 := Lib.hid hE2
        clear hE2 hE hF HN
        have HF2 := Lib.hid hF2; clear hF2
        have hse : (d.waits[k].sector : Int) = s := by omega
        rw [hse] at hs
        generalize d.waits[k].bytes = bb at *
        clear he hse
        go_wp2_with (first
          | (with_reducible refine wpList_loadSec rfl (.tmp 41) rfl rb _ rfl bb hB.out ?_))
        refine (own_is _ _).mono ?_
        rintro e u ⟨v, rfl, hr, hb⟩
        go_wp2_with fail
        go_ret2
        refine ⟨_, by rw [HF2.out]; rfl, ?_⟩
        rw [HE2.out]
        exact HS.out.lastA hb (by show World.ownsRow _ _ _ _ _ bb.l.length _; rw [bb.h]; exact hr)
      · have hse : ((d.waits[k].sector : Int) == s) = false := by rw [beq_eq_false_iff_ne]; omega
        have HN2 := Lib.hid (show ∀ j, (hj : j < d.waits.length) → k ≤ j → d.waits[j].sector ≠ s.toNat from fun j hj hkj => by
          rcases Nat.lt_or_ge k j with h | h
          · exact HN.out j hj (by omega)
          · have : j = k := by omega
            subst this; exact he)
        clear he
        generalize d.waits[k].sector = sx at *
        go_wp2_with fail
        go_round
        · exact ⟨k, by omega, by trivial, HN2.out, by trivial⟩
        · show ((k : Int) - 1 + 1).toNat < _
          first | omega | (show _ < ((k : Int) + 1).toNat; omega)
end Di
end Go.Proofs.Ytnjejffbcgchlaa
