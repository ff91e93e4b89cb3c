/- The document's disk: a write comes through (come); Lose. -/
import Derived.Test.YtnjejffbcgchlaaDiskRef3
import Derived.Deep.RegionHeld3
set_option linter.unusedSimpArgs false
set_option linter.unusedVariables false
namespace Go.Proofs.Ytnjejffbcgchlaa
open Go.RowKit
theorem Sep.rowSetAt {w0 u : World} {a c : List It} {base : Nat} {e : TypeId} {K g cap n : Nat} {xs : List Value} (h : Sep w0 (a ++ (.row base e K (.slice (some ⟨g, 0, none⟩) n cap) n xs :: c)) u) (i : Nat) (v : Value) :
    Sep w0 (a ++ (.row base e K (.slice (some ⟨g, 0, none⟩) n cap) n (xs.set i v) :: c)) (u.setCell ⟨g, i, none⟩ v) := by
  have h1 := h.perm List.perm_middle
  have h2 := h1.rowTurn (n' := n) (xs' := xs.set i v) ((Foot.refl (fun k => (Value.slice (some ⟨g, 0, none⟩) n cap).ownBlock = some k) u).set (p := ⟨g, i, none⟩) (.inl rfl) v) ((World.ownsRow.stored h1.head i v).1)
  exact h2.perm List.perm_middle.symm
theorem get_erase_perm {α : Type} : ∀ (L : List α) (k : Nat) (hk : k < L.length), (L[k] :: L.eraseIdx k).Perm L
  | x :: L, 0, _ => List.Perm.refl _
  | x :: L, k + 1, hk => by
    show (L[k]'(by simpa using hk) :: x :: L.eraseIdx k).Perm (x :: L)
    exact (List.Perm.swap _ _ _).trans (List.Perm.cons _ (get_erase_perm L k (by simpa using hk)))
theorem set_erase_perm {α : Type} (y : α) : ∀ (L : List α) (k : Nat) (hk : k < L.length), (L.set k y).Perm (y :: L.eraseIdx k)
  | x :: L, 0, _ => List.Perm.refl _
  | x :: L, k + 1, hk => by
    show (x :: L.set k y).Perm (y :: x :: L.eraseIdx k)
    exact (List.Perm.cons _ (set_erase_perm y L k (by simpa using hk))).trans (List.Perm.swap _ _ _)
/-- A thing at the end takes another's place. -/
theorem Sep.swapIn {w0 u : World} {H L Y : List It} {x : It} (h : Sep w0 (H ++ (L ++ (Y ++ [x]))) u) {k : Nat} (hk : k < L.length) : Sep w0 (H ++ (L.set k x ++ Y)) u := by
  have p1 : (H ++ (L ++ (Y ++ [x]))).Perm (L[k] :: (H ++ (x :: (L.eraseIdx k ++ Y)))) := by
    have a1 : (L ++ (Y ++ [x])).Perm (L[k] :: (x :: (L.eraseIdx k ++ Y))) := by
      have b1 : (L ++ (Y ++ [x])).Perm (x :: (L ++ Y)) := by rw [← List.append_assoc]; exact List.perm_append_singleton _ _
      have b2 : (x :: (L ++ Y)).Perm (x :: (L[k] :: L.eraseIdx k ++ Y)) := List.Perm.cons _ (List.Perm.append_right _ (get_erase_perm L k hk).symm)
      exact b1.trans (b2.trans (List.Perm.swap _ _ _))
    exact (List.Perm.append_left H a1).trans List.perm_middle
  have h1 := (h.perm p1).tail
  refine h1.perm (List.Perm.append_left H ?_)
  exact ((set_erase_perm x L k hk).symm.append_right Y)
namespace Di
theorem slices_set (L : List Br) (k : Nat) (x : Br) : (L.map Br.v).set k x.v = (L.set k x).map Br.v := by rw [List.map_set]
def rsetR (m : Md) (k : Nat) (x : Br) : Md := { m with rests := m.rests.set k x }
def rsetM (m : Md) (k : Nat) (x : Br) : Md := { m with meants := m.meants.set k x }
def rsetL (m : Md) (k : Nat) (b : Bool) : Md := { m with losts := m.losts.set k b }
section
variable {w0 u : World} {base g gr gm gl cr cm cl : Nat} {sv mv lv wv : Value} {m : Md} {l : List It}
theorem mI_setR {x : Br} (h : Sep w0 (mI base g (.slice (some ⟨gr, 0, none⟩) m.rests.length cr) mv lv wv m ++ (l ++ [brI base x])) u) {k : Nat} (hk : k < m.rests.length) :
    Sep w0 (mI base g (.slice (some ⟨gr, 0, none⟩) m.rests.length cr) mv lv wv (rsetR m k x) ++ l) (u.setCell ⟨gr, k, none⟩ x.v) := by
  have h1 := Sep.rowSetAt (a := [.box g 67 (mdC (.slice (some ⟨gr, 0, none⟩) m.rests.length cr) mv lv wv m)]) (c := (mHead base g (.slice (some ⟨gr, 0, none⟩) m.rests.length cr) mv lv wv m).drop 2 ++ (mTail base m ++ (l ++ [brI base x]))) (base := base) (e := 22) (K := 1) (cap := cr) (n := m.rests.length) (xs := m.rests.map Br.v) (by
    have := h; unfold mI at this; rw [List.append_assoc] at this; exact this) k x.v
  rw [slices_set] at h1
  have h2 : Sep w0 (mHead base g (.slice (some ⟨gr, 0, none⟩) m.rests.length cr) mv lv wv (rsetR m k x) ++ (m.rests.map (brI base) ++ ((m.meants.map (brI base) ++ m.waits.map (fun x => brI base x.b)) ++ l ++ [brI base x]))) (u.setCell ⟨gr, k, none⟩ x.v) := by
    have e : mHead base g (.slice (some ⟨gr, 0, none⟩) m.rests.length cr) mv lv wv (rsetR m k x) = [.box g 67 (mdC (.slice (some ⟨gr, 0, none⟩) m.rests.length cr) mv lv wv m)] ++ (.row base 22 1 (.slice (some ⟨gr, 0, none⟩) m.rests.length cr) m.rests.length ((m.rests.set k x).map Br.v) :: (mHead base g (.slice (some ⟨gr, 0, none⟩) m.rests.length cr) mv lv wv m).drop 2) := by
      unfold mHead rsetR; rw [List.length_set]; rfl
    rw [e]
    unfold mTail at h1
    simp only [List.append_assoc, List.cons_append, List.nil_append] at h1 ⊢
    exact h1
  have h3 := Sep.swapIn h2 (k := k) (by simpa using hk)
  have e2 : (m.rests.map (brI base)).set k (brI base x) = (m.rests.set k x).map (brI base) := by rw [List.map_set]
  rw [e2] at h3
  unfold mI mTail
  simp only [List.append_assoc] at h3 ⊢
  exact h3
theorem mI_setM {x : Br} (h : Sep w0 (mI base g sv (.slice (some ⟨gm, 0, none⟩) m.meants.length cm) lv wv m ++ (l ++ [brI base x])) u) {k : Nat} (hk : k < m.meants.length) :
    Sep w0 (mI base g sv (.slice (some ⟨gm, 0, none⟩) m.meants.length cm) lv wv (rsetM m k x) ++ l) (u.setCell ⟨gm, k, none⟩ x.v) := by
  have h1 := Sep.rowSetAt (a := (mHead base g sv (.slice (some ⟨gm, 0, none⟩) m.meants.length cm) lv wv m).take 2) (c := (mHead base g sv (.slice (some ⟨gm, 0, none⟩) m.meants.length cm) lv wv m).drop 3 ++ (mTail base m ++ (l ++ [brI base x]))) (base := base) (e := 22) (K := 1) (cap := cm) (n := m.meants.length) (xs := m.meants.map Br.v) (by
    have := h; unfold mI at this; rw [List.append_assoc] at this; exact this) k x.v
  rw [slices_set] at h1
  have h2 : Sep w0 ((mHead base g sv (.slice (some ⟨gm, 0, none⟩) m.meants.length cm) lv wv (rsetM m k x) ++ m.rests.map (brI base)) ++ (m.meants.map (brI base) ++ (m.waits.map (fun x => brI base x.b) ++ l ++ [brI base x]))) (u.setCell ⟨gm, k, none⟩ x.v) := by
    have e : mHead base g sv (.slice (some ⟨gm, 0, none⟩) m.meants.length cm) lv wv (rsetM m k x) = (mHead base g sv (.slice (some ⟨gm, 0, none⟩) m.meants.length cm) lv wv m).take 2 ++ (.row base 22 1 (.slice (some ⟨gm, 0, none⟩) m.meants.length cm) m.meants.length ((m.meants.set k x).map Br.v) :: (mHead base g sv (.slice (some ⟨gm, 0, none⟩) m.meants.length cm) lv wv m).drop 3) := by
      unfold mHead rsetM; rw [List.length_set]; rfl
    rw [e]
    unfold mTail at h1
    simp only [List.append_assoc, List.cons_append, List.nil_append] at h1 ⊢
    exact h1
  have h3 := Sep.swapIn h2 (k := k) (by simpa using hk)
  have e2 : (m.meants.map (brI base)).set k (brI base x) = (m.meants.set k x).map (brI base) := by rw [List.map_set]
  rw [e2] at h3
  unfold mI mTail
  simp only [List.append_assoc] at h3 ⊢
  exact h3
theorem mI_setL (h : Sep w0 (mI base g sv mv (.slice (some ⟨gl, 0, none⟩) m.losts.length cl) wv m ++ l) u) (k : Nat) (b : Bool) :
    Sep w0 (mI base g sv mv (.slice (some ⟨gl, 0, none⟩) m.losts.length cl) wv (rsetL m k b) ++ l) (u.setCell ⟨gl, k, none⟩ (.bool b)) := by
  have h1 := Sep.rowSetAt (a := (mHead base g sv mv (.slice (some ⟨gl, 0, none⟩) m.losts.length cl) wv m).take 3) (c := (mHead base g sv mv (.slice (some ⟨gl, 0, none⟩) m.losts.length cl) wv m).drop 4 ++ (mTail base m ++ l)) (base := base) (e := 4) (K := 1) (cap := cl) (n := m.losts.length) (xs := bools m.losts) (by
    have := h; unfold mI at this; rw [List.append_assoc] at this; exact this) k (.bool b)
  have e0 : (bools m.losts).set k (.bool b) = bools (m.losts.set k b) := by unfold bools; rw [List.map_set]
  rw [e0] at h1
  have e : mHead base g sv mv (.slice (some ⟨gl, 0, none⟩) m.losts.length cl) wv (rsetL m k b) = (mHead base g sv mv (.slice (some ⟨gl, 0, none⟩) m.losts.length cl) wv m).take 3 ++ (.row base 4 1 (.slice (some ⟨gl, 0, none⟩) m.losts.length cl) m.losts.length (bools (m.losts.set k b)) :: (mHead base g sv mv (.slice (some ⟨gl, 0, none⟩) m.losts.length cl) wv m).drop 4) := by
    unfold mHead rsetL; rw [List.length_set]; rfl
  unfold mI
  rw [e]
  simp only [List.append_assoc, List.cons_append, List.nil_append] at h1 ⊢
  exact h1
end
def rcome (m : Md) (k : Nat) (x y : Br) : Md := rsetL (rsetM (rsetR m k x) k y) k false
theorem rcome_rel {m : Md} {d : Dk} (h : Rel m d) (k : Nat) (S : Sec) (x y : Br) (hx : x.l = S.l) (hy : y.l = S.l) : Rel (rcome m k x y) { d with places := come d.places ⟨S, k⟩ } := by
  obtain ⟨h1, h2, h3, h4, h5, h6, h7⟩ := h
  refine ⟨?_, ?_, ?_, h4, h5, h6, h7⟩
  · show (m.rests.set k x).map _ = (d.places.set k _).map _
    rw [List.map_set, List.map_set, h1, hx]
  · show (m.meants.set k y).map _ = (d.places.set k _).map _
    rw [List.map_set, List.map_set, h2, hy]
  · show m.losts.set k false = (d.places.set k _).map _
    rw [List.map_set, h3]
set_option maxRecDepth 100000 in
set_option maxHeartbeats 8000000 in
theorem rcome_is (m : Md) (d : Dk) (hr : Rel m d) (k : Nat) (S : Sec) (bv : Value) (hk : k < d.places.length) (hkb : d.places.length ≤ 1024) (g : Nat) (sv mv lv wv : Value) {w0 : World} {l : List It} (w : World) (hS : Sep w0 (mI w0.heap.size g sv mv lv wv m ++ l) w)
    (hB : ∀ (m' : Md) (l' : List It) (u : World), m'.waits = m.waits → Sep w0 (mI w0.heap.size g sv mv lv wv m' ++ l') u → Row u u.heap.size bv S.l.length (u8s S.l)) :
    Calls Try.prog 53 #[.pointer (some ⟨g, 0, none⟩), .agg #[.int .i64 (k : Nat), bv]] w fun e w' => e = .returned (.tuple #[]) ∧ ∃ m', m'.waits = m.waits ∧ Rel m' { d with places := come d.places ⟨S, k⟩ } ∧ Sep w0 (mI w0.heap.size g sv mv lv wv m' ++ l) w' := by
  have hkr : k < m.rests.length := by rw [hr.lr]; exact hk
  have hkm : k < m.meants.length := by rw [hr.lm]; exact hk
  have hkl : k < m.losts.length := by rw [hr.ll]; exact hk
  obtain ⟨gr, cr, hv, _⟩ := own_form (mI_rests hS) (by omega)
  subst hv
  obtain ⟨gm, cm, hv, _⟩ := own_form (mI_meants hS) (by omega)
  subst hv
  obtain ⟨gl, cl, hv, _⟩ := own_form (mI_losts hS) (by omega)
  subst hv
  obtain ⟨ba, bc, hbv, _, _⟩ := (hB m l w rfl hS).slice
  subst hbv
  have hS64 : S.l.length = 64 := S.h
  rw [hS64] at hB
  have HB := Lib.hid hB
  have HR := Lib.hid hr
  obtain ⟨N, hN⟩ : ∃ N, d.places.length = N := ⟨_, rfl⟩
  have hR1 := hr.lr; have hR2 := hr.lm; have hR3 := hr.ll
  rw [hN] at hR1 hR2 hR3 hk hkb
  obtain ⟨bb, hbb⟩ : ∃ bb, bb = w.heap.size := ⟨_, rfl⟩
  have HS1 : Hid (Sep w0 (mI w0.heap.size g (.slice (some ⟨gr, 0, none⟩) m.rests.length cr) (.slice (some ⟨gm, 0, none⟩) m.meants.length cm) (.slice (some ⟨gl, 0, none⟩) m.losts.length cl) wv m ++ (.box bb 93 [.int .i64 (k : Nat), .slice ba 64 bc] :: l)) (w.alloc (.cells #[.int .i64 (k : Nat), .slice ba 64 bc] 93))) := by
    rw [hbb]; exact (hS.alloc 93 [.int .i64 (k : Nat), .slice ba 64 bc]).perm List.perm_middle.symm
  have hk0 : (0 : Int) ≤ (k : Int) := by omega
  have hk1 : (k : Int) < (N : Int) := by omega
  clear hS hB hr hN
  show Calls Try.prog 53 #[.pointer (some ⟨g, 0, none⟩), .agg #[.int .i64 (k : Nat), .slice ba S.l.length bc]] w _
  rw [hS64]
  go_enter Try.func53, Try.ntmps53
  go_wp2_with fail
  rw [← hbb]
  obtain ⟨U, hU⟩ : ∃ U : World, U = w.alloc (.cells #[.int .i64 (k : Nat), .slice ba 64 bc] 93) := ⟨_, rfl⟩
  rw [← hU] at HS1 ⊢
  clear hU hbb
  have SOF : Hid (∀ (m' : Md) (l' : List It) (u : World), Sep w0 (mI w0.heap.size g (.slice (some ⟨gr, 0, none⟩) m.rests.length cr) (.slice (some ⟨gm, 0, none⟩) m.meants.length cm) (.slice (some ⟨gl, 0, none⟩) m.losts.length cl) wv m' ++ (.box bb 93 [.int .i64 (k : Nat), .slice ba 64 bc] :: l')) u → (fun u : World => u.cell? ⟨g, 0, none⟩ = some (.slice (some ⟨gr, 0, none⟩) N cr) ∧ u.cell? ⟨g, 1, none⟩ = some (.slice (some ⟨gm, 0, none⟩) N cm) ∧ u.cell? ⟨g, 2, none⟩ = some (.slice (some ⟨gl, 0, none⟩) N cl) ∧ u.cell? ⟨bb, 0, none⟩ = some (.int .i64 (k : Nat)) ∧ u.cell? ⟨bb, 1, none⟩ = some (.slice ba 64 bc)) u) := fun m' l' u hs => by
    have h1 := mI_box hs
    have h2 : Whole u bb 93 [.int .i64 (k : Nat), .slice ba 64 bc] := hs.holds (.box bb 93 [.int .i64 (k : Nat), .slice ba 64 bc]) (by simp)
    have e0 := h1.cell 0; have e1 := h1.cell 1; have e2 := h1.cell 2
    simp only [mdC, List.getElem?_cons_zero, List.getElem?_cons_succ] at e0 e1 e2
    rw [hR1] at e0; rw [hR2] at e1; rw [hR3] at e2
    exact ⟨e0, e1, e2, h2.cell 0, h2.cell 1⟩
  have HD1 := Lib.hid HS1.out.drew
  have HC1 := Lib.hid (copy_is S.l (.slice ba 64 bc) _ HD1.out (by rw [hS64]; exact HB.out m _ _ rfl HD1.out) (by rw [hS64]; omega))
  go_wp2_with fail
  have SDD1 := Lib.hid (SOF.out m l _ (by have := HD1.out; simpa [rsetR] using this))
  refine wp_region_held_drew (S := (fun u : World => u.cell? ⟨g, 0, none⟩ = some (.slice (some ⟨gr, 0, none⟩) N cr) ∧ u.cell? ⟨g, 1, none⟩ = some (.slice (some ⟨gm, 0, none⟩) N cm) ∧ u.cell? ⟨g, 2, none⟩ = some (.slice (some ⟨gl, 0, none⟩) N cl) ∧ u.cell? ⟨bb, 0, none⟩ = some (.int .i64 (k : Nat)) ∧ u.cell? ⟨bb, 1, none⟩ = some (.slice ba 64 bc))) (by kernel_rfl) (SDD1.out) (fun HS => ?_)
  refine handTake 0 (some 4) ?_ rfl rfl (by kernel_rfl) (by kernel_rfl) (by kernel_rfl) (fun _ _ _ h => h) (by rfl) ?_ HS ?_
  rotate_left
  · (intro u hu; (try dsimp only at hu); go_simp; try with_reducible rfl)
  simp only [Act.put, List.setIfInBounds_toArray, List.set_cons_zero, List.set_cons_succ]
  refine handTake 1 (some 5) ?_ rfl rfl (by kernel_rfl) (by kernel_rfl) (by kernel_rfl) (fun _ _ _ h => h) (by rfl) ?_ HS ?_
  rotate_left
  · (intro u hu; (try dsimp only at hu); go_simp; try with_reducible rfl)
  simp only [Act.put, List.setIfInBounds_toArray, List.set_cons_zero, List.set_cons_succ]
  refine handTake 2 (some 6) ?_ rfl rfl (by kernel_rfl) (by kernel_rfl) (by kernel_rfl) (fun _ _ _ h => h) (by rfl) ?_ HS ?_
  rotate_left
  · (intro u hu; (try dsimp only at hu); go_simp; try with_reducible rfl)
  simp only [Act.put, List.setIfInBounds_toArray, List.set_cons_zero, List.set_cons_succ]
  refine handTake 3 (some 7) ?_ rfl rfl (by kernel_rfl) (by kernel_rfl) (by kernel_rfl) (fun _ _ _ h => h) (by rfl) ?_ HS ?_
  rotate_left
  · (intro u hu; (try dsimp only at hu); go_simp; try with_reducible rfl)
  simp only [Act.put, List.setIfInBounds_toArray, List.set_cons_zero, List.set_cons_succ]
  refine handTake 4 (some 8) ?_ rfl rfl (by kernel_rfl) (by kernel_rfl) (by kernel_rfl) (fun _ _ _ h => h) (by rfl) ?_ HS ?_
  rotate_left
  · (intro u hu; (try dsimp only at hu); go_simp; try with_reducible rfl)
  simp only [Act.put, List.setIfInBounds_toArray, List.set_cons_zero, List.set_cons_succ]
  refine handTake 5 (some 9) ?_ rfl rfl (by kernel_rfl) (by kernel_rfl) (by kernel_rfl) (fun _ _ _ h => h) (by rfl) ?_ HS ?_
  rotate_left
  · (intro u hu; (try dsimp only at hu); go_simp; try with_reducible rfl)
  simp only [Act.put, List.setIfInBounds_toArray, List.set_cons_zero, List.set_cons_succ]
  refine handTake 6 (some 10) ?_ rfl rfl (by kernel_rfl) (by kernel_rfl) (by kernel_rfl) (fun _ _ _ h => h) (by rfl) ?_ HS ?_
  rotate_left
  · (intro u hu; (try dsimp only at hu); go_simp; try with_reducible rfl)
  simp only [Act.put, List.setIfInBounds_toArray, List.set_cons_zero, List.set_cons_succ]
  refine handTake 7 (some 11) ?_ rfl rfl (by kernel_rfl) (by kernel_rfl) (by kernel_rfl) (fun _ _ _ h => h) (by rfl) ?_ HS ?_
  rotate_left
  · (intro u hu; (try dsimp only at hu); go_simp; try with_reducible rfl)
  simp only [Act.put, List.setIfInBounds_toArray, List.set_cons_zero, List.set_cons_succ]
  refine wpAnyH_ready (rs := [8]) (by kernel_rfl) (by simp) ?_
  refine AllReadyH.cons rfl (fun K hK => ?_) AllReadyH.nil
  clear HS
  go_simp
  refine HC1.out.mono ?_
  rintro e v1 ⟨x1, rfl, hs⟩
  obtain ⟨xa1, xc1, hxv, _, _⟩ := (rowB_row (base := w0.heap.size) (v := x1) (xs := S.l) hs (by simp)).slice
  rw [hS64] at hxv
  have HE1 : Hid (Sep w0 (mI w0.heap.size g (.slice (some ⟨gr, 0, none⟩) m.rests.length cr) (.slice (some ⟨gm, 0, none⟩) m.meants.length cm) (.slice (some ⟨gl, 0, none⟩) m.losts.length cl) wv m ++ ((.box bb 93 [.int .i64 (k : Nat), .slice ba 64 bc] :: l) ++ [brI w0.heap.size ⟨x1, S.l⟩])) v1) := by rw [← List.append_assoc]; exact hs
  have hown := mI_rests HE1.out
  have hcc1 : v1.cell? ⟨gr, k, none⟩ = some (m.rests[k]'(by simpa [rsetR] using hkr)).v := by rw [hown.cellAt k (by have := hkr; simp [rsetR]; omega), slices_get]
  have hcf1 := hown.frozenAt k
  have HG1 : Hid (Sep w0 (mI w0.heap.size g (.slice (some ⟨gr, 0, none⟩) m.rests.length cr) (.slice (some ⟨gm, 0, none⟩) m.meants.length cm) (.slice (some ⟨gl, 0, none⟩) m.losts.length cl) wv (rsetR m k ⟨x1, S.l⟩) ++ (.box bb 93 [.int .i64 (k : Nat), .slice ba 64 bc] :: l)) (v1.setCell ⟨gr, k, none⟩ x1)) := mI_setR (m := m) HE1.out (k := k) (by simpa [rsetR] using hkr)
  have SG1 := Lib.hid (SOF.out (rsetR m k ⟨x1, S.l⟩) l _ (by have := HG1.out; simpa [rsetR, rsetM] using this))
  have SE1 := Lib.hid (SOF.out m (l ++ [brI w0.heap.size ⟨x1, S.l⟩]) _ (by have := HE1.out; simpa [rsetR] using this))
  subst hxv
  clear hs hown
  go_wp2_with fail
  refine hK.out _ _ (SE1.out) (fun HS => ?_)
  clear hK
  try simp only [Act.put, List.setIfInBounds_toArray, List.set_cons_zero, List.set_cons_succ]
  refine handTake 9 (some 13) ?_ rfl rfl (by kernel_rfl) (by kernel_rfl) (by kernel_rfl) (fun _ _ _ h => h) (by rfl) ?_ HS ?_
  rotate_left
  · (intro u hu; (try dsimp only at hu); go_simp; try with_reducible rfl)
  simp only [Act.put, List.setIfInBounds_toArray, List.set_cons_zero, List.set_cons_succ]
  refine wpAnyH_ready (rs := [10]) (by kernel_rfl) (by simp) ?_
  refine AllReadyH.cons rfl (fun K hK => ?_) AllReadyH.nil
  clear HS
  go_simp
  refine hK.out _ _ (SG1.out) (fun HS => ?_)
  clear hK
  try simp only [Act.put, List.setIfInBounds_toArray, List.set_cons_zero, List.set_cons_succ]
  refine wpAnyH_done (by kernel_rfl) ?_ _
  clear HS SDD1 SE1 SG1
  have HS2 := HG1
  have HD2 := Lib.hid HS2.out.drew
  have HC2 := Lib.hid (copy_is S.l (.slice ba 64 bc) _ HD2.out (by rw [hS64]; exact HB.out (rsetR m k ⟨.slice xa1 64 xc1, S.l⟩) _ _ rfl HD2.out) (by rw [hS64]; omega))
  go_wp2_with fail
  have SDD2 := Lib.hid (SOF.out (rsetR m k ⟨.slice xa1 64 xc1, S.l⟩) l _ (by have := HD2.out; simpa [rsetR] using this))
  refine wp_region_held_drew (S := (fun u : World => u.cell? ⟨g, 0, none⟩ = some (.slice (some ⟨gr, 0, none⟩) N cr) ∧ u.cell? ⟨g, 1, none⟩ = some (.slice (some ⟨gm, 0, none⟩) N cm) ∧ u.cell? ⟨g, 2, none⟩ = some (.slice (some ⟨gl, 0, none⟩) N cl) ∧ u.cell? ⟨bb, 0, none⟩ = some (.int .i64 (k : Nat)) ∧ u.cell? ⟨bb, 1, none⟩ = some (.slice ba 64 bc))) (by kernel_rfl) (SDD2.out) (fun HS => ?_)
  refine handTake 0 (some 14) ?_ rfl rfl (by kernel_rfl) (by kernel_rfl) (by kernel_rfl) (fun _ _ _ h => h) (by rfl) ?_ HS ?_
  rotate_left
  · (intro u hu; (try dsimp only at hu); go_simp; try with_reducible rfl)
  simp only [Act.put, List.setIfInBounds_toArray, List.set_cons_zero, List.set_cons_succ]
  refine handTake 1 (some 15) ?_ rfl rfl (by kernel_rfl) (by kernel_rfl) (by kernel_rfl) (fun _ _ _ h => h) (by rfl) ?_ HS ?_
  rotate_left
  · (intro u hu; (try dsimp only at hu); go_simp; try with_reducible rfl)
  simp only [Act.put, List.setIfInBounds_toArray, List.set_cons_zero, List.set_cons_succ]
  refine handTake 2 (some 16) ?_ rfl rfl (by kernel_rfl) (by kernel_rfl) (by kernel_rfl) (fun _ _ _ h => h) (by rfl) ?_ HS ?_
  rotate_left
  · (intro u hu; (try dsimp only at hu); go_simp; try with_reducible rfl)
  simp only [Act.put, List.setIfInBounds_toArray, List.set_cons_zero, List.set_cons_succ]
  refine handTake 3 (some 17) ?_ rfl rfl (by kernel_rfl) (by kernel_rfl) (by kernel_rfl) (fun _ _ _ h => h) (by rfl) ?_ HS ?_
  rotate_left
  · (intro u hu; (try dsimp only at hu); go_simp; try with_reducible rfl)
  simp only [Act.put, List.setIfInBounds_toArray, List.set_cons_zero, List.set_cons_succ]
  refine handTake 4 (some 18) ?_ rfl rfl (by kernel_rfl) (by kernel_rfl) (by kernel_rfl) (fun _ _ _ h => h) (by rfl) ?_ HS ?_
  rotate_left
  · (intro u hu; (try dsimp only at hu); go_simp; try with_reducible rfl)
  simp only [Act.put, List.setIfInBounds_toArray, List.set_cons_zero, List.set_cons_succ]
  refine handTake 5 (some 19) ?_ rfl rfl (by kernel_rfl) (by kernel_rfl) (by kernel_rfl) (fun _ _ _ h => h) (by rfl) ?_ HS ?_
  rotate_left
  · (intro u hu; (try dsimp only at hu); go_simp; try with_reducible rfl)
  simp only [Act.put, List.setIfInBounds_toArray, List.set_cons_zero, List.set_cons_succ]
  refine handTake 6 (some 20) ?_ rfl rfl (by kernel_rfl) (by kernel_rfl) (by kernel_rfl) (fun _ _ _ h => h) (by rfl) ?_ HS ?_
  rotate_left
  · (intro u hu; (try dsimp only at hu); go_simp; try with_reducible rfl)
  simp only [Act.put, List.setIfInBounds_toArray, List.set_cons_zero, List.set_cons_succ]
  refine handTake 7 (some 21) ?_ rfl rfl (by kernel_rfl) (by kernel_rfl) (by kernel_rfl) (fun _ _ _ h => h) (by rfl) ?_ HS ?_
  rotate_left
  · (intro u hu; (try dsimp only at hu); go_simp; try with_reducible rfl)
  simp only [Act.put, List.setIfInBounds_toArray, List.set_cons_zero, List.set_cons_succ]
  refine wpAnyH_ready (rs := [8]) (by kernel_rfl) (by simp) ?_
  refine AllReadyH.cons rfl (fun K hK => ?_) AllReadyH.nil
  clear HS
  go_simp
  refine HC2.out.mono ?_
  rintro e v2 ⟨x2, rfl, hs⟩
  obtain ⟨xa2, xc2, hxv, _, _⟩ := (rowB_row (base := w0.heap.size) (v := x2) (xs := S.l) hs (by simp)).slice
  rw [hS64] at hxv
  have HE2 : Hid (Sep w0 (mI w0.heap.size g (.slice (some ⟨gr, 0, none⟩) m.rests.length cr) (.slice (some ⟨gm, 0, none⟩) m.meants.length cm) (.slice (some ⟨gl, 0, none⟩) m.losts.length cl) wv (rsetR m k ⟨.slice xa1 64 xc1, S.l⟩) ++ ((.box bb 93 [.int .i64 (k : Nat), .slice ba 64 bc] :: l) ++ [brI w0.heap.size ⟨x2, S.l⟩])) v2) := by rw [← List.append_assoc]; exact hs
  have hown := mI_meants HE2.out
  have hcc2 : v2.cell? ⟨gm, k, none⟩ = some ((rsetR m k ⟨.slice xa1 64 xc1, S.l⟩).meants[k]'(by simpa [rsetR] using hkm)).v := by rw [hown.cellAt k (by have := hkm; simp [rsetR]; omega), slices_get]
  have hcf2 := hown.frozenAt k
  have HG2 : Hid (Sep w0 (mI w0.heap.size g (.slice (some ⟨gr, 0, none⟩) m.rests.length cr) (.slice (some ⟨gm, 0, none⟩) m.meants.length cm) (.slice (some ⟨gl, 0, none⟩) m.losts.length cl) wv (rsetM (rsetR m k ⟨.slice xa1 64 xc1, S.l⟩) k ⟨x2, S.l⟩) ++ (.box bb 93 [.int .i64 (k : Nat), .slice ba 64 bc] :: l)) (v2.setCell ⟨gm, k, none⟩ x2)) := mI_setM (m := (rsetR m k ⟨.slice xa1 64 xc1, S.l⟩)) HE2.out (k := k) (by simpa [rsetR] using hkm)
  have SG2 := Lib.hid (SOF.out (rsetM (rsetR m k ⟨.slice xa1 64 xc1, S.l⟩) k ⟨x2, S.l⟩) l _ (by have := HG2.out; simpa [rsetR, rsetM] using this))
  have SE2 := Lib.hid (SOF.out (rsetR m k ⟨.slice xa1 64 xc1, S.l⟩) (l ++ [brI w0.heap.size ⟨x2, S.l⟩]) _ (by have := HE2.out; simpa [rsetR] using this))
  subst hxv
  clear hs hown
  go_wp2_with fail
  refine hK.out _ _ (SE2.out) (fun HS => ?_)
  clear hK
  try simp only [Act.put, List.setIfInBounds_toArray, List.set_cons_zero, List.set_cons_succ]
  refine handTake 9 (some 23) ?_ rfl rfl (by kernel_rfl) (by kernel_rfl) (by kernel_rfl) (fun _ _ _ h => h) (by rfl) ?_ HS ?_
  rotate_left
  · (intro u hu; (try dsimp only at hu); go_simp; try with_reducible rfl)
  simp only [Act.put, List.setIfInBounds_toArray, List.set_cons_zero, List.set_cons_succ]
  refine wpAnyH_ready (rs := [10]) (by kernel_rfl) (by simp) ?_
  refine AllReadyH.cons rfl (fun K hK => ?_) AllReadyH.nil
  clear HS
  go_simp
  refine hK.out _ _ (SG2.out) (fun HS => ?_)
  clear hK
  try simp only [Act.put, List.setIfInBounds_toArray, List.set_cons_zero, List.set_cons_succ]
  refine wpAnyH_done (by kernel_rfl) ?_ _
  clear HS SDD2 SE2 SG2
  have HD3 := Lib.hid HG2.out.drew
  have SD3 := Lib.hid (SOF.out (rsetM (rsetR m k ⟨.slice xa1 64 xc1, S.l⟩) k ⟨.slice xa2 64 xc2, S.l⟩) l _ (by have := HD3.out; simpa [rsetR, rsetM] using this))
  have HF3 := Lib.hid (mI_setL (m := (rsetM (rsetR m k ⟨.slice xa1 64 xc1, S.l⟩) k ⟨.slice xa2 64 xc2, S.l⟩)) HD3.out k false)
  have SF3 := Lib.hid (SOF.out (rcome m k ⟨.slice xa1 64 xc1, S.l⟩ ⟨.slice xa2 64 xc2, S.l⟩) l _ (by have := HF3.out; simpa [rcome, rsetR, rsetM, rsetL] using this))
  have hown := mI_losts HD3.out
  have hcl := hown.cellAt k (by rw [Nat.mul_one]; exact hkl)
  have hcl2 : ∃ b : Bool, (bools (rsetM (rsetR m k ⟨.slice xa1 64 xc1, S.l⟩) k ⟨.slice xa2 64 xc2, S.l⟩).losts)[k]? = some (.bool b) := ⟨m.losts[k]'hkl, by show (m.losts.map Value.bool)[k]? = _; simp [hkl]⟩
  obtain ⟨b0, hb0⟩ := hcl2
  rw [hb0] at hcl
  have hcfl := hown.frozenAt k
  clear hown hb0
  go_wp2_with fail
  refine wp_region_held_drew (S := (fun u : World => u.cell? ⟨g, 0, none⟩ = some (.slice (some ⟨gr, 0, none⟩) N cr) ∧ u.cell? ⟨g, 1, none⟩ = some (.slice (some ⟨gm, 0, none⟩) N cm) ∧ u.cell? ⟨g, 2, none⟩ = some (.slice (some ⟨gl, 0, none⟩) N cl) ∧ u.cell? ⟨bb, 0, none⟩ = some (.int .i64 (k : Nat)) ∧ u.cell? ⟨bb, 1, none⟩ = some (.slice ba 64 bc))) (by kernel_rfl) (SD3.out) (fun HS => ?_)
  refine handTake 0 (some 24) ?_ rfl rfl (by kernel_rfl) (by kernel_rfl) (by kernel_rfl) (fun _ _ _ h => h) (by rfl) ?_ HS ?_
  rotate_left
  · (intro u hu; (try dsimp only at hu); go_simp; try with_reducible rfl)
  simp only [Act.put, List.setIfInBounds_toArray, List.set_cons_zero, List.set_cons_succ]
  refine handTake 1 (some 25) ?_ rfl rfl (by kernel_rfl) (by kernel_rfl) (by kernel_rfl) (fun _ _ _ h => h) (by rfl) ?_ HS ?_
  rotate_left
  · (intro u hu; (try dsimp only at hu); go_simp; try with_reducible rfl)
  simp only [Act.put, List.setIfInBounds_toArray, List.set_cons_zero, List.set_cons_succ]
  refine handTake 2 (some 26) ?_ rfl rfl (by kernel_rfl) (by kernel_rfl) (by kernel_rfl) (fun _ _ _ h => h) (by rfl) ?_ HS ?_
  rotate_left
  · (intro u hu; (try dsimp only at hu); go_simp; try with_reducible rfl)
  simp only [Act.put, List.setIfInBounds_toArray, List.set_cons_zero, List.set_cons_succ]
  refine handTake 3 (some 27) ?_ rfl rfl (by kernel_rfl) (by kernel_rfl) (by kernel_rfl) (fun _ _ _ h => h) (by rfl) ?_ HS ?_
  rotate_left
  · (intro u hu; (try dsimp only at hu); go_simp; try with_reducible rfl)
  simp only [Act.put, List.setIfInBounds_toArray, List.set_cons_zero, List.set_cons_succ]
  refine handTake 4 (some 28) ?_ rfl rfl (by kernel_rfl) (by kernel_rfl) (by kernel_rfl) (fun _ _ _ h => h) (by rfl) ?_ HS ?_
  rotate_left
  · (intro u hu; (try dsimp only at hu); go_simp; try with_reducible rfl)
  simp only [Act.put, List.setIfInBounds_toArray, List.set_cons_zero, List.set_cons_succ]
  refine handTake 5 (some 29) ?_ rfl rfl (by kernel_rfl) (by kernel_rfl) (by kernel_rfl) (fun _ _ _ h => h) (by rfl) ?_ HS ?_
  rotate_left
  · (intro u hu; (try dsimp only at hu); go_simp; try with_reducible rfl)
  simp only [Act.put, List.setIfInBounds_toArray, List.set_cons_zero, List.set_cons_succ]
  refine handTake 6 (some 30) ?_ rfl rfl (by kernel_rfl) (by kernel_rfl) (by kernel_rfl) (fun _ _ _ h => h) (by rfl) ?_ HS ?_
  rotate_left
  · (intro u hu; (try dsimp only at hu); go_simp; try with_reducible rfl)
  simp only [Act.put, List.setIfInBounds_toArray, List.set_cons_zero, List.set_cons_succ]
  refine wpAnyH_ready (rs := [7]) (by kernel_rfl) (by simp) ?_
  refine AllReadyH.cons rfl (fun K hK => ?_) AllReadyH.nil
  clear HS
  go_simp
  refine hK.out _ _ (SF3.out) (fun HS => ?_)
  clear hK
  try simp only [Act.put, List.setIfInBounds_toArray, List.set_cons_zero, List.set_cons_succ]
  refine wpAnyH_done (by kernel_rfl) ?_ _
  clear HS SD3 SF3
  go_end0
  refine ⟨rfl, rcome m k ⟨.slice xa1 64 xc1, S.l⟩ ⟨.slice xa2 64 xc2, S.l⟩, rfl, rcome_rel HR.out k S _ _ rfl rfl, ?_⟩
  exact (HF3.out.perm List.perm_middle).tail
end Di
end Go.Proofs.Ytnjejffbcgchlaa
