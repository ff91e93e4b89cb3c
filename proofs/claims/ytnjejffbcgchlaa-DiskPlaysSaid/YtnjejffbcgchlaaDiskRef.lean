/- The document's disk: its things in memory, and its small functions. -/
import Derived.Test.YtnjejffbcgchlaaDiskActs
set_option linter.unusedSimpArgs false
set_option linter.unusedVariables false
namespace Go.Proofs.Ytnjejffbcgchlaa
open Go.RowKit
namespace Di
/-- A slice of bytes, and what it holds. -/
structure Br where
  v : Value
  l : List Int
def brI (base : Nat) (x : Br) : It := rowB base x.v x.l
structure Mw where
  sector : Nat
  b : Br
def mwC (x : Mw) : List Value := [.int .i64 (x.sector : Int), x.b.v]
theorem mwC_len (x : Mw) : (mwC x).length = 2 := rfl
structure Md where
  rests : List Br
  meants : List Br
  losts : List Bool
  waits : List Mw
  down : Bool
  dead : Bool
  power : Int
def mdC (sv mv lv wv : Value) (m : Md) : List Value := [sv, mv, lv, wv, .bool m.down, .bool m.dead, .int .i64 m.power]
def mHead (base g : Nat) (sv mv lv wv : Value) (m : Md) : List It :=
  [.box g 67 (mdC sv mv lv wv m), .row base 22 1 sv m.rests.length (m.rests.map Br.v), .row base 22 1 mv m.meants.length (m.meants.map Br.v),
   .row base 4 1 lv m.losts.length (bools m.losts), .row base 93 2 wv m.waits.length (m.waits.flatMap mwC)]
def mTail (base : Nat) (m : Md) : List It := m.rests.map (brI base) ++ (m.meants.map (brI base) ++ m.waits.map (fun x => brI base x.b))
def mI (base g : Nat) (sv mv lv wv : Value) (m : Md) : List It := mHead base g sv mv lv wv m ++ mTail base m
/-- It stands as the plain disk says. -/
structure Rel (m : Md) (d : Dk) : Prop where
  rests : m.rests.map (·.l) = d.places.map (·.rest.l)
  meants : m.meants.map (·.l) = d.places.map (·.meant.l)
  losts : m.losts = d.places.map (·.lost)
  waits : m.waits.map (fun x => (x.sector, x.b.l)) = d.waits.map (fun x => (x.sector, x.bytes.l))
  down : m.down = d.down
  dead : m.dead = d.dead
  power : m.power = d.left
theorem Rel.lr {m : Md} {d : Dk} (h : Rel m d) : m.rests.length = d.places.length := by have := congrArg List.length h.rests; simpa using this
theorem Rel.lm {m : Md} {d : Dk} (h : Rel m d) : m.meants.length = d.places.length := by have := congrArg List.length h.meants; simpa using this
theorem Rel.ll {m : Md} {d : Dk} (h : Rel m d) : m.losts.length = d.places.length := by rw [h.losts]; simp
theorem Rel.lw {m : Md} {d : Dk} (h : Rel m d) : m.waits.length = d.waits.length := by have := congrArg List.length h.waits; simpa using this
theorem Rel.rest {m : Md} {d : Dk} (h : Rel m d) {k : Nat} (hk : k < m.rests.length) (hk' : k < d.places.length) : m.rests[k].l = d.places[k].rest.l := by
  have := congrArg (·[k]?) h.rests
  simpa [List.getElem?_eq_getElem hk, List.getElem?_eq_getElem hk'] using this
theorem Rel.meant {m : Md} {d : Dk} (h : Rel m d) {k : Nat} (hk : k < m.meants.length) (hk' : k < d.places.length) : m.meants[k].l = d.places[k].meant.l := by
  have := congrArg (·[k]?) h.meants
  simpa [List.getElem?_eq_getElem hk, List.getElem?_eq_getElem hk'] using this
theorem Rel.lost {m : Md} {d : Dk} (h : Rel m d) {k : Nat} (hk : k < m.losts.length) (hk' : k < d.places.length) : m.losts[k] = d.places[k].lost := by
  have := congrArg (·[k]?) h.losts
  simpa [List.getElem?_eq_getElem hk, List.getElem?_eq_getElem hk'] using this
theorem Rel.wait {m : Md} {d : Dk} (h : Rel m d) {k : Nat} (hk : k < m.waits.length) (hk' : k < d.waits.length) : m.waits[k].sector = d.waits[k].sector ∧ m.waits[k].b.l = d.waits[k].bytes.l := by
  have := congrArg (·[k]?) h.waits
  simpa [List.getElem?_eq_getElem hk, List.getElem?_eq_getElem hk'] using this
section
variable {w0 u : World} {base g : Nat} {sv mv lv wv : Value} {m : Md} {l : List It}
theorem mI_box (h : Sep w0 (mI base g sv mv lv wv m ++ l) u) : Whole u g 67 (mdC sv mv lv wv m) := h.holds (.box g 67 (mdC sv mv lv wv m)) (by simp [mI, mHead])
theorem mI_rests (h : Sep w0 (mI base g sv mv lv wv m ++ l) u) : u.ownsRow base 22 1 sv m.rests.length (m.rests.map Br.v) := h.holds (.row base 22 1 sv m.rests.length (m.rests.map Br.v)) (by simp [mI, mHead])
theorem mI_meants (h : Sep w0 (mI base g sv mv lv wv m ++ l) u) : u.ownsRow base 22 1 mv m.meants.length (m.meants.map Br.v) := h.holds (.row base 22 1 mv m.meants.length (m.meants.map Br.v)) (by simp [mI, mHead])
theorem mI_losts (h : Sep w0 (mI base g sv mv lv wv m ++ l) u) : u.ownsRow base 4 1 lv m.losts.length (bools m.losts) := h.holds (.row base 4 1 lv m.losts.length (bools m.losts)) (by simp [mI, mHead])
theorem mI_waits (h : Sep w0 (mI base g sv mv lv wv m ++ l) u) : u.ownsRow base 93 2 wv m.waits.length (m.waits.flatMap mwC) := h.holds (.row base 93 2 wv m.waits.length (m.waits.flatMap mwC)) (by simp [mI, mHead])
theorem mI_rest (h : Sep w0 (mI base g sv mv lv wv m ++ l) u) {k : Nat} (hk : k < m.rests.length) : Row u u.heap.size m.rests[k].v m.rests[k].l.length (u8s m.rests[k].l) :=
  rowB_row (base := base) h (List.mem_append_left _ (List.mem_append_right _ (List.mem_append_left _ (List.mem_map.2 ⟨_, List.getElem_mem hk, rfl⟩))))
theorem mI_meant (h : Sep w0 (mI base g sv mv lv wv m ++ l) u) {k : Nat} (hk : k < m.meants.length) : Row u u.heap.size m.meants[k].v m.meants[k].l.length (u8s m.meants[k].l) :=
  rowB_row (base := base) h (List.mem_append_left _ (List.mem_append_right _ (List.mem_append_right _ (List.mem_append_left _ (List.mem_map.2 ⟨_, List.getElem_mem hk, rfl⟩)))))
theorem mI_wait (h : Sep w0 (mI base g sv mv lv wv m ++ l) u) {k : Nat} (hk : k < m.waits.length) : Row u u.heap.size m.waits[k].b.v m.waits[k].b.l.length (u8s m.waits[k].b.l) :=
  rowB_row (base := base) h (List.mem_append_left _ (List.mem_append_right _ (List.mem_append_right _ (List.mem_append_right _ (List.mem_map.2 ⟨_, List.getElem_mem hk, rfl⟩)))))
end
set_option maxHeartbeats 1000000 in
theorem has_is (m : Md) (d : Dk) (hr : Rel m d) (s : Int) (g : Nat) (sv mv lv wv : Value) {w0 : World} {base : Nat} {l : List It} (w : World) (hS : Sep w0 (mI base g sv mv lv wv m ++ l) w) :
    Calls Try.prog 54 #[.pointer (some ⟨g, 0, none⟩), .int .i64 s] w fun e w' => e = .returned (.bool (inn d s)) ∧ w = w' := by
  obtain ⟨A, c, rfl, _, _⟩ := (Row.of_own (mI_rests hS)).slice
  have c0 := (mI_box hS).cell 0
  simp only [mdC, List.getElem?_cons_zero, List.getElem?_cons_succ] at c0
  rw [hr.lr] at c0
  have hE : Hid (inn d s = (decide (0 ≤ s) && decide (s < d.places.length))) := rfl
  generalize d.places.length = N at *
  clear hS hr
  go_enter Try.func54, Try.ntmps54
  by_cases h0 : 0 ≤ s
  · go_wp2_with fail
    go_ret
    refine ⟨?_, rfl⟩
    rw [hE.out, decide_eq_true h0]; rfl
  · have h0' : decide (0 ≤ s) = false := by simpa using h0
    go_wp2_with fail
    go_ret
    refine ⟨?_, rfl⟩
    rw [hE.out, h0']; rfl
/-- A cell of its block is written. -/
theorem mI_set {w0 u : World} {base g : Nat} {sv mv lv wv : Value} {m m' : Md} {l : List It} (h : Sep w0 (mI base g sv mv lv wv m ++ l) u) (i : Nat) (v : Value) (he : (mdC sv mv lv wv m).set i v = mdC sv mv lv wv m') (h1 : m'.rests = m.rests) (h2 : m'.meants = m.meants) (h3 : m'.losts = m.losts) (h4 : m'.waits = m.waits) :
    Sep w0 (mI base g sv mv lv wv m' ++ l) (u.setCell ⟨g, i, none⟩ v) := by
  have := Sep.set h i v
  rw [he] at this
  have e : mI base g sv mv lv wv m' = .box g 67 (mdC sv mv lv wv m') :: (mI base g sv mv lv wv m).tail := by
    unfold mI mHead mTail
    rw [h1, h2, h3, h4]
    rfl
  rw [e]
  exact this
def rspend (m : Md) : Md := if m.power = 0 then { m with dead := true } else if 0 < m.power then { m with power := m.power - 1 } else m
theorem rspend_rel {m : Md} {d : Dk} (h : Rel m d) : Rel (rspend m) (spendD d) := by
  obtain ⟨h1, h2, h3, h4, h5, h6, h7⟩ := h
  unfold rspend spendD
  rw [h7]
  split
  · exact ⟨h1, h2, h3, h4, h5, rfl, rfl⟩
  · split
    · exact ⟨h1, h2, h3, h4, h5, h6, rfl⟩
    · exact ⟨h1, h2, h3, h4, h5, h6, h7⟩
set_option maxHeartbeats 1000000 in
theorem rspend_is (m : Md) (hb1 : -1 ≤ m.power) (hb2 : m.power ≤ 9223372036854775807) (g : Nat) (sv mv lv wv : Value) {w0 : World} {base : Nat} {l : List It} (w : World) (hS : Sep w0 (mI base g sv mv lv wv m ++ l) w) :
    Calls Try.prog 52 #[.pointer (some ⟨g, 0, none⟩)] w fun e w' => e = .returned (.bool (!decide (m.power = 0))) ∧ Sep w0 (mI base g sv mv lv wv (rspend m) ++ l) w' := by
  have hW := mI_box hS
  have c5 := hW.cell 5; have f5 := hW.free 5; have c6 := hW.cell 6; have f6 := hW.free 6
  simp only [mdC, List.getElem?_cons_zero, List.getElem?_cons_succ] at c5 c6
  have HS := Lib.hid hS
  have HM : Hid (rspend m = if m.power = 0 then { m with dead := true } else if 0 < m.power then { m with power := m.power - 1 } else m) := rfl
  obtain ⟨p, hp⟩ : ∃ p, m.power = p := ⟨_, rfl⟩
  have HP := Lib.hid hp
  rw [hp] at c6 hb1 hb2 ⊢
  clear hS hW hp
  go_enter Try.func52, Try.ntmps52
  by_cases e0 : p = 0
  · subst e0
    go_wp2_with fail
    go_ret
    refine ⟨rfl, ?_⟩
    rw [HM.out, if_pos HP.out]
    exact mI_set HS.out 5 (.bool true) rfl rfl rfl rfl rfl
  · have e0' : (p == 0) = false := by simp [e0]
    by_cases e1 : 0 < p
    · have E0 := Lib.hid e0; clear e0
      go_wp2_with fail
      go_ret
      have e0 := E0.out
      refine ⟨by simp [e0], ?_⟩
      rw [HM.out, HP.out, if_neg e0, if_pos e1]
      exact mI_set HS.out 6 (.int .i64 (p - 1)) rfl rfl rfl rfl rfl
    · have E0 := Lib.hid e0; clear e0
      go_wp2_with fail
      go_ret
      have e0 := E0.out
      refine ⟨by simp [e0], ?_⟩
      have e1' : ¬ 0 < p := by omega
      rw [HM.out, HP.out, if_neg e0, if_neg e1']
      exact HS.out
end Di
end Go.Proofs.Ytnjejffbcgchlaa
