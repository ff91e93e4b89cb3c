/- Flush, Crash, Write. -/
import Derived.Test.YtnjejffbcgchlaaDiskFlow
set_option linter.unusedSimpArgs false
set_option linter.unusedVariables false
namespace Go.Proofs.Ytnjejffbcgchlaa
open Go.RowKit
theorem Sep.grown {w0 u u' : World} {base : Nat} {e : TypeId} {K : Nat} {v v' : Value} {n n' : Nat} {xs ys : List Value} {l : List It} (h : Sep w0 (.row base e K v n xs :: l) u) (h2 : u'.ownsRow base e K v' n' ys) (h3 : u.grownBy u' v.ownBlock) (h4 : v'.ownBlock = v.ownBlock ∨ v'.ownBlock = some u.heap.size) :
    Sep w0 (.row base e K v' n' ys :: l) u' :=
  Sep.turn (a := [.row base e K v n xs]) (a' := [.row base e K v' n' ys]) (F := fun k => v.ownBlock = some k) h (Foot.of_grown h3) (fun k hk => .inl ⟨_, List.mem_singleton.2 rfl, hk⟩)
    (by intro x hx; rw [List.mem_singleton.1 hx]; exact h2)
    (by
      intro x hx k hk
      rw [List.mem_singleton.1 hx] at hk
      rcases h4 with h4 | h4
      · exact .inl ⟨_, List.mem_singleton.2 rfl, by show v.ownBlock = some k; rw [← h4]; exact hk⟩
      · exact .inr (by have := hk.symm.trans h4; injection this with this; omega))
    (by simp)

namespace Di
set_option maxHeartbeats 400000 in
theorem yes_is (k : Int) (u : World) : Calls Try.prog 39 #[.int .i64 k] u fun e w' => e = .returned (.bool true) ∧ u = w' := by
  go_enter Try.func39, Try.ntmps39
  go_wp2_with fail
  go_ret
  exact ⟨rfl, rfl⟩
def bools (l : List Bool) : List Value := l.map Value.bool
set_option maxHeartbeats 400000 in
theorem keep_is (keep : List Bool) (kb B : Nat) (kv : Value) (k : Nat) (hk : k ≤ 9223372036854775807) (u : World) (hc : u.cell? ⟨kb, 0, none⟩ = some kv) (hr : Row u B kv keep.length (bools keep)) :
    Calls Try.prog 38 #[.int .i64 k, .pointer (some ⟨kb, 0, none⟩)] u fun e w' => e = .returned (.bool (kept keep k)) ∧ u = w' := by
  obtain ⟨A, c, rfl, _, _⟩ := hr.slice
  have HR := Lib.hid hr
  have hbd := hr.bound
  clear hr
  by_cases hlt : k < keep.length
  · obtain ⟨b2, o2, rfl, hb2, hx2⟩ := HR.out.at_ (j := k) (by simp [bools]; omega)
    have hy := hx2 k (.bool keep[k]) (by simp [bools, hlt])
    have hE : kept keep k = keep[k] := by unfold kept; rw [List.getElem?_eq_getElem hlt]; rfl
    rw [hE]
    clear hE hx2
    generalize keep[k] = x at *
    generalize keep.length = n at *
    have hl1 : (k : Int) < (n : Int) := by omega
    have hl0 : (0 : Int) ≤ (k : Int) := by omega
    cases x <;> (
      go_enter Try.func38, Try.ntmps38
      go_wp2_with fail
      go_ret
      exact ⟨rfl, rfl⟩)
  · have hE : kept keep k = false := by unfold kept; rw [List.getElem?_eq_none (by omega)]; rfl
    rw [hE]
    clear hE
    generalize keep.length = n at *
    have hl1 : ¬ (k : Int) < (n : Int) := by omega
    have hl2 : decide ((k : Int) < (n : Int)) = false := by simpa using hl1
    go_enter Try.func38, Try.ntmps38
    go_wp2_with fail
    go_ret
    exact ⟨rfl, rfl⟩
theorem live_none {d : Dk} : liveE d [] = if d.up then 0 else 5 := rfl
set_option maxHeartbeats 1000000 in
theorem flush_is (d : Dk) (ho : Ok d) (b : Nat) (pv wv : Value) {w0 : World} {l : List It} (w : World) (hS : Sep w0 (dI w0.heap.size b pv wv d ++ l) w) :
    Calls Try.prog 20 #[.pointer (some ⟨b, 0, none⟩)] w fun e w' => e = .returned (.int .i64 (flushE d)) ∧ ∃ wv', Sep w0 (dI w0.heap.size b pv wv' (flushD d) ++ l) w' := by
  have T := Lib.hid (live_is [] d ho b w.heap.size pv wv _ w hS (Row.nil _ _))
  have P := Lib.hid (spend_is d ho b pv wv w hS)
  have HS := Lib.hid hS
  have HO := Lib.hid ho
  clear hS ho
  rw [live_none] at T
  cases hup : d.up
  · have hE : flushE d = 5 := by unfold flushE; rw [hup]; rfl
    have hD : Hid (flushD d = d) := by show flushD d = d; unfold flushD; rw [hup]; rfl
    rw [hE]
    rw [hup] at T
    simp only [Bool.false_eq_true, if_false] at T
    clear hE hup
    go_enter Try.func20, Try.ntmps20
    go_wp2_with fail
    refine T.out.mono ?_
    rintro e u ⟨rfl, rfl⟩
    go_wp2_with fail
    go_ret
    exact ⟨rfl, _, by rw [hD.out]; exact HS.out⟩
  rw [hup] at T
  simp only [if_true] at T
  by_cases h0 : d.left = 0
  · have hE : flushE d = 5 := by unfold flushE spendE; rw [hup]; simp [h0]
    have hD : Hid (flushD d = spendD d) := by show flushD d = _; unfold flushD; rw [hup]; simp [h0]
    have hP : spendE d = 5 := by unfold spendE; simp [h0]
    rw [hE]
    rw [hP] at P
    clear hE hup hP h0
    go_enter Try.func20, Try.ntmps20
    go_wp2_with fail
    refine T.out.mono ?_
    rintro e u ⟨rfl, rfl⟩
    go_wp2_with fail
    refine P.out.mono ?_
    rintro e u ⟨rfl, hs⟩
    have HS2 := Lib.hid hs
    clear hs
    go_wp2_with fail
    go_ret
    exact ⟨rfl, _, by rw [hD.out]; exact HS2.out⟩
  · have hE : flushE d = 0 := by unfold flushE spendE; rw [hup]; simp [h0]
    have hD : Hid (flushD d = through (spendD d) (fun _ => true)) := by show flushD d = _; unfold flushD; rw [hup]; simp [h0]
    have hP : spendE d = 0 := by unfold spendE; simp [h0]
    rw [hE]
    rw [hP] at P
    clear hE hup hP h0
    go_enter Try.func20, Try.ntmps20
    go_wp2_with fail
    refine T.out.mono ?_
    rintro e u ⟨rfl, rfl⟩
    go_wp2_with fail
    refine P.out.mono ?_
    rintro e u ⟨rfl, hs⟩
    have HT := Lib.hid (through_all (is := fun _ => true) (spendD d) (spend_ok HO.out) b pv wv u hs (fun a u k _ _ => yes_is k u))
    clear hs
    go_wp2_with fail
    refine HT.out.mono ?_
    rintro e u ⟨rfl, hs⟩
    have HS2 := Lib.hid hs
    clear hs
    go_wp2_with fail
    go_ret
    exact ⟨rfl, _, by rw [hD.out]; exact HS2.out⟩

/-- A slice that reads as these cells, whatever else turns. -/
def Stays (w0 : World) (l : List It) (v : Value) (n : Nat) (xs : List Value) : Prop := ∀ (a : List It) (u : World), Sep w0 (a ++ l) u → Row u u.heap.size v n xs
theorem Stays.of_row {w0 : World} {l : List It} {v : Value} {n : Nat} {xs : List Value} {B : Nat} (h : Row w0 B v n xs) (hB : B ≤ w0.heap.size) : Stays w0 l v n xs := fun a u hs => (hs.row_below h hB).more (Nat.le_trans hB hs.size)
theorem Stays.of_own {w0 : World} {l : List It} {base : Nat} {e : TypeId} {K : Nat} {v : Value} {n : Nat} {xs : List Value} (h : .row base e K v n xs ∈ l) : Stays w0 l v n xs := fun a u hs => Row.of_own (hs.holds _ (List.mem_append_right _ h))
theorem Stays.nil (w0 : World) (l : List It) : Stays w0 l (.slice none 0 0) 0 [] := fun _ _ _ => Row.nil _ _
theorem Stays.cons {w0 : World} {l : List It} {v : Value} {n : Nat} {xs : List Value} (h : Stays w0 l v n xs) (x : It) : Stays w0 (x :: l) v n xs := fun a u hs => h (a ++ [x]) u (by simpa using hs)
theorem Stays.appL {w0 : World} {l : List It} {v : Value} {n : Nat} {xs : List Value} (h : Stays w0 l v n xs) (x : List It) : Stays w0 (x ++ l) v n xs := fun a u hs => h (a ++ x) u (by simpa using hs)
theorem Stays.appR {w0 : World} {l : List It} {v : Value} {n : Nat} {xs : List Value} (h : Stays w0 l v n xs) (x : List It) : Stays w0 (l ++ x) v n xs := fun a u hs => h (x ++ a) u (hs.perm (by
  rw [← List.append_assoc]
  exact (List.perm_append_comm).trans (by rw [List.append_assoc])))
theorem Stays.now {w0 u : World} {l : List It} {v : Value} {n : Nat} {xs : List Value} (h : Stays w0 l v n xs) {a : List It} (hs : Sep w0 (a ++ l) u) : Row u u.heap.size v n xs := h a u hs

set_option maxHeartbeats 1000000 in
theorem crash_is (d : Dk) (ho : Ok d) (keep : List Bool) (b : Nat) (pv wv kv : Value) {w0 : World} {l : List It} (w : World) (hS : Sep w0 (dI w0.heap.size b pv wv d ++ l) w) (hK : Stays w0 l kv keep.length (bools keep)) :
    Calls Try.prog 15 #[.pointer (some ⟨b, 0, none⟩), kv] w fun e w' => e = .returned (.int .i64 (crashE d)) ∧ ∃ wv', Sep w0 (dI w0.heap.size b pv wv' (crashD d keep) ++ l) w' := by
  obtain ⟨gb, c, rfl⟩ := dI_pv hS ho.some
  obtain ⟨ka, kc, rfl, _, _⟩ := (hK.now hS).slice
  have hS1 : Sep w0 (dI w0.heap.size b (.slice (some ⟨gb, 0, none⟩) d.places.length c) wv d ++ (.box w.heap.size 23 [.slice ka keep.length kc] :: l)) (w.alloc (.cells #[.slice ka keep.length kc] 23)) :=
    (hS.alloc 23 [.slice ka keep.length kc]).perm (List.perm_middle (l₁ := dI w0.heap.size b (.slice (some ⟨gb, 0, none⟩) d.places.length c) wv d)).symm
  have hW := dI_box hS1
  have c0 := hW.cell 0; have c2 := hW.cell 2
  simp only [dkC, List.getElem?_cons_zero, List.getElem?_cons_succ] at c0 c2
  have C := Lib.hid (size_is b _ _ _ _ c0)
  have T := Lib.hid (there_is [] d ho.some b w.heap.size _ _ _ _ c0 (Row.nil _ _))
  have G := Lib.hid (through_keep (is := kept keep) d ho b (.slice (some ⟨gb, 0, none⟩) d.places.length c) wv w.heap.size _ hS1 (fun a u k hk hs => by
    have hbx : Whole u w.heap.size 23 [.slice ka keep.length kc] := hs.holds (.box w.heap.size 23 [.slice ka keep.length kc]) (by simp)
    exact keep_is keep w.heap.size _ (.slice ka keep.length kc) k hk u (hbx.cell 0) ((hK.cons _).now hs)))
  have HS := Lib.hid hS1
  have hT0 : thereE d [] = 0 := rfl
  rw [hT0] at T
  clear hT0
  have hcell : Hid (∀ (u : World), Sep w0 (dI w0.heap.size b (.slice (some ⟨gb, 0, none⟩) d.places.length c) (.slice none 0 0) (through d (kept keep)) ++ (.box w.heap.size 23 [.slice ka keep.length kc] :: l)) u → u.cell? ⟨b, 2, none⟩ = some (.bool d.down) ∧ u.frozen? ⟨b, 2, none⟩ = false) := fun u hs => ⟨(dI_box hs).cell 2, (dI_box hs).free 2⟩
  obtain ⟨N, hN⟩ : ∃ N, d.places.length = N := ⟨_, rfl⟩
  have hpos : 0 < N := hN ▸ ho.some
  rw [hN] at c0 C G HS hcell ⊢
  have hz : decide (0 < (N : Int)) = true := by rw [decide_eq_true_eq]; omega
  clear hS hS1 hW ho hK hN
  cases hd : d.down
  · have hE : crashE d = 0 := by unfold crashE; rw [hd]; rfl
    have hD : Hid (crashD d keep = { through d (kept keep) with down := true }) := by show crashD d keep = _; unfold crashD; rw [hd]; rfl
    rw [hE]
    rw [hd] at c2
    clear hE hd
    go_enter Try.func15, Try.ntmps15
    go_wp2_with fail
    refine C.out.mono ?_
    rintro e u ⟨rfl, rfl⟩
    go_wp2_with fail
    refine T.out.mono ?_
    rintro e u ⟨rfl, rfl⟩
    go_wp2_with fail
    refine G.out.mono ?_
    rintro e u ⟨rfl, hs⟩
    have HS2 := Lib.hid hs
    obtain ⟨x2, xf2⟩ := hcell.out u hs
    clear hs
    go_wp2_with fail
    go_ret
    refine ⟨rfl, .slice none 0 0, ?_⟩
    rw [hD.out]
    have h3 := Sep.set HS2.out 2 (.bool true)
    exact h3.sub ((List.sublist_cons_self _ _).append_left _)
  · have hE : crashE d = 5 := by unfold crashE; rw [hd]; rfl
    have hD : Hid (crashD d keep = d) := by show crashD d keep = _; unfold crashD; rw [hd]; rfl
    rw [hE]
    rw [hd] at c2
    clear hE hd
    go_enter Try.func15, Try.ntmps15
    go_wp2_with fail
    refine C.out.mono ?_
    rintro e u ⟨rfl, rfl⟩
    go_wp2_with fail
    go_ret
    refine ⟨rfl, wv, ?_⟩
    rw [hD.out]
    exact HS.out.sub ((List.sublist_cons_self _ _).append_left _)
end Di
end Go.Proofs.Ytnjejffbcgchlaa
