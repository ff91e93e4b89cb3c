/- The document's disk: New. -/
import Derived.Test.YtnjejffbcgchlaaDiskRef8
import Derived.Deep.RegionHeld3
set_option linter.unusedSimpArgs false
set_option linter.unusedVariables false
namespace Go.Proofs.Ytnjejffbcgchlaa
open Go.RowKit
namespace Di
theorem mI_grownR {w0 u u' : World} {g : Nat} {sv mv lv wv sv' : Value} {m : Md} {l : List It} (x : Br) {n : Nat} (h : Sep w0 (mI w0.heap.size g sv mv lv wv m ++ (l ++ [brI w0.heap.size x])) u)
    (h2 : u'.ownsRow w0.heap.size 22 1 sv' n ((m.rests.map Br.v) ++ [x.v])) (hn : n = m.rests.length + 1) (h3 : u.grownBy u' sv.ownBlock) (h4 : sv'.ownBlock = sv.ownBlock ∨ sv'.ownBlock = some u.heap.size) :
    Whole u' g 67 (mdC sv mv lv wv m) ∧ Sep w0 (mI w0.heap.size g sv' mv lv wv { m with rests := m.rests ++ [x] } ++ l) (u'.setCell ⟨g, 0, none⟩ sv') := by
  have h0 : Sep w0 ((mHead w0.heap.size g sv mv lv wv m).take 1 ++ (.row w0.heap.size 22 1 sv m.rests.length (m.rests.map Br.v) :: ((mHead w0.heap.size g sv mv lv wv m).drop 2 ++ (mTail w0.heap.size m ++ (l ++ [brI w0.heap.size x]))))) u := by
    have := h
    unfold mI at this
    rw [List.append_assoc] at this
    exact this
  have h5 := (h0.perm List.perm_middle).grown h2 h3 h4
  have h6 := h5.perm List.perm_middle.symm
  have hw : Whole u' g 67 (mdC sv mv lv wv m) := h6.holds (.box g 67 (mdC sv mv lv wv m)) (by simp [mHead])
  refine ⟨hw, ?_⟩
  have h7 := Sep.set h6 0 sv'
  have e1 : (m.rests ++ [x]).map Br.v = m.rests.map Br.v ++ [x.v] := by simp [bools]
  have e2 : (m.rests ++ [x]).length = n := by rw [hn]; simp
  have h8 : Sep w0 ([.box g 67 (mdC sv' mv lv wv m), .row w0.heap.size 22 1 sv' n ((m.rests.map Br.v) ++ [x.v]), .row w0.heap.size 22 1 mv m.meants.length (m.meants.map Br.v), .row w0.heap.size 4 1 lv m.losts.length (bools m.losts), .row w0.heap.size 93 2 wv m.waits.length (m.waits.flatMap mwC)] ++ ((m.rests.map (brI w0.heap.size) ++ [brI w0.heap.size x]) ++ ((m.meants.map (brI w0.heap.size) ++ m.waits.map (fun x => brI w0.heap.size x.b)) ++ l))) (u'.setCell ⟨g, 0, none⟩ sv') := by
    refine h7.perm ?_
    show List.Perm (_ :: _ :: _ :: _ :: _ :: (mTail w0.heap.size m ++ (l ++ [brI w0.heap.size x]))) (_ :: _ :: _ :: _ :: _ :: _)
    refine List.Perm.cons _ (List.Perm.cons _ (List.Perm.cons _ (List.Perm.cons _ (List.Perm.cons _ ?_))))
    unfold mTail
    simp only [List.append_assoc]
    refine List.Perm.append_left _ ?_
    rw [show m.meants.map (brI w0.heap.size) ++ (m.waits.map (fun x => brI w0.heap.size x.b) ++ (l ++ [brI w0.heap.size x])) = (m.meants.map (brI w0.heap.size) ++ (m.waits.map (fun x => brI w0.heap.size x.b) ++ l)) ++ [brI w0.heap.size x] from by simp]
    exact List.perm_append_comm
  unfold mI mTail mHead
  dsimp only
  rw [e1, e2]
  unfold mTail at h8
  simp only [List.append_assoc, List.map_append, List.map_cons, List.map_nil, List.cons_append, List.nil_append] at h8 ⊢
  exact h8
theorem mI_grownM {w0 u u' : World} {g : Nat} {sv mv lv wv mv' : Value} {m : Md} {l : List It} (x : Br) {n : Nat} (h : Sep w0 (mI w0.heap.size g sv mv lv wv m ++ (l ++ [brI w0.heap.size x])) u)
    (h2 : u'.ownsRow w0.heap.size 22 1 mv' n ((m.meants.map Br.v) ++ [x.v])) (hn : n = m.meants.length + 1) (h3 : u.grownBy u' mv.ownBlock) (h4 : mv'.ownBlock = mv.ownBlock ∨ mv'.ownBlock = some u.heap.size) :
    Whole u' g 67 (mdC sv mv lv wv m) ∧ Sep w0 (mI w0.heap.size g sv mv' lv wv { m with meants := m.meants ++ [x] } ++ l) (u'.setCell ⟨g, 1, none⟩ mv') := by
  have h0 : Sep w0 ((mHead w0.heap.size g sv mv lv wv m).take 2 ++ (.row w0.heap.size 22 1 mv m.meants.length (m.meants.map Br.v) :: ((mHead w0.heap.size g sv mv lv wv m).drop 3 ++ (mTail w0.heap.size m ++ (l ++ [brI w0.heap.size x]))))) u := by
    have := h
    unfold mI at this
    rw [List.append_assoc] at this
    exact this
  have h5 := (h0.perm List.perm_middle).grown h2 h3 h4
  have h6 := h5.perm List.perm_middle.symm
  have hw : Whole u' g 67 (mdC sv mv lv wv m) := h6.holds (.box g 67 (mdC sv mv lv wv m)) (by simp [mHead])
  refine ⟨hw, ?_⟩
  have h7 := Sep.set h6 1 mv'
  have e1 : (m.meants ++ [x]).map Br.v = m.meants.map Br.v ++ [x.v] := by simp [bools]
  have e2 : (m.meants ++ [x]).length = n := by rw [hn]; simp
  have h8 : Sep w0 ([.box g 67 (mdC sv mv' lv wv m), .row w0.heap.size 22 1 sv m.rests.length (m.rests.map Br.v), .row w0.heap.size 22 1 mv' n ((m.meants.map Br.v) ++ [x.v]), .row w0.heap.size 4 1 lv m.losts.length (bools m.losts), .row w0.heap.size 93 2 wv m.waits.length (m.waits.flatMap mwC)] ++ (m.rests.map (brI w0.heap.size) ++ ((m.meants.map (brI w0.heap.size) ++ [brI w0.heap.size x]) ++ (m.waits.map (fun x => brI w0.heap.size x.b) ++ l)))) (u'.setCell ⟨g, 1, none⟩ mv') := by
    refine h7.perm ?_
    show List.Perm (_ :: _ :: _ :: _ :: _ :: (mTail w0.heap.size m ++ (l ++ [brI w0.heap.size x]))) (_ :: _ :: _ :: _ :: _ :: _)
    refine List.Perm.cons _ (List.Perm.cons _ (List.Perm.cons _ (List.Perm.cons _ (List.Perm.cons _ ?_))))
    unfold mTail
    simp only [List.append_assoc]
    refine List.Perm.append_left _ (List.Perm.append_left _ ?_)
    rw [← List.append_assoc]
    exact List.perm_append_comm
  unfold mI mTail mHead
  dsimp only
  rw [e1, e2]
  unfold mTail at h8
  simp only [List.append_assoc, List.map_append, List.map_cons, List.map_nil, List.cons_append, List.nil_append] at h8 ⊢
  exact h8
theorem mI_grownL {w0 u u' : World} {g : Nat} {sv mv lv wv lv' : Value} {m : Md} {l : List It} (x : Bool) {n : Nat} (h : Sep w0 (mI w0.heap.size g sv mv lv wv m ++ l) u)
    (h2 : u'.ownsRow w0.heap.size 4 1 lv' n ((bools m.losts) ++ [.bool x])) (hn : n = m.losts.length + 1) (h3 : u.grownBy u' lv.ownBlock) (h4 : lv'.ownBlock = lv.ownBlock ∨ lv'.ownBlock = some u.heap.size) :
    Whole u' g 67 (mdC sv mv lv wv m) ∧ Sep w0 (mI w0.heap.size g sv mv lv' wv { m with losts := m.losts ++ [x] } ++ l) (u'.setCell ⟨g, 2, none⟩ lv') := by
  have h0 : Sep w0 ((mHead w0.heap.size g sv mv lv wv m).take 3 ++ (.row w0.heap.size 4 1 lv m.losts.length (bools m.losts) :: ((mHead w0.heap.size g sv mv lv wv m).drop 4 ++ (mTail w0.heap.size m ++ l)))) u := by
    have := h
    unfold mI at this
    rw [List.append_assoc] at this
    exact this
  have h5 := (h0.perm List.perm_middle).grown h2 h3 h4
  have h6 := h5.perm List.perm_middle.symm
  have hw : Whole u' g 67 (mdC sv mv lv wv m) := h6.holds (.box g 67 (mdC sv mv lv wv m)) (by simp [mHead])
  refine ⟨hw, ?_⟩
  have h7 := Sep.set h6 2 lv'
  have e1 : bools (m.losts ++ [x]) = bools m.losts ++ [.bool x] := by simp [bools]
  have e2 : (m.losts ++ [x]).length = n := by rw [hn]; simp
  have h8 : Sep w0 ([.box g 67 (mdC sv mv lv' wv m), .row w0.heap.size 22 1 sv m.rests.length (m.rests.map Br.v), .row w0.heap.size 22 1 mv m.meants.length (m.meants.map Br.v), .row w0.heap.size 4 1 lv' n ((bools m.losts) ++ [.bool x]), .row w0.heap.size 93 2 wv m.waits.length (m.waits.flatMap mwC)] ++ (mTail w0.heap.size m ++ l)) (u'.setCell ⟨g, 2, none⟩ lv') := by
    refine h7.perm ?_
    show List.Perm (_ :: _ :: _ :: _ :: _ :: (mTail w0.heap.size m ++ l)) (_ :: _ :: _ :: _ :: _ :: _)
    refine List.Perm.cons _ (List.Perm.cons _ (List.Perm.cons _ (List.Perm.cons _ (List.Perm.cons _ ?_))))
    exact List.Perm.refl _
  unfold mI mTail mHead
  dsimp only
  rw [e1, e2]
  unfold mTail at h8
  simp only [List.append_assoc, List.map_append, List.map_cons, List.map_nil, List.cons_append, List.nil_append] at h8 ⊢
  exact h8
theorem info_bslice : (Try.prog.info? 22).map (fun i => (i.zero, i.size, i.bytes)) = some (some (.slice none 0 0), 1, 24) := by kernel_rfl
theorem info_bool : (Try.prog.info? 4).map (fun i => (i.zero, i.size, i.bytes)) = some (some (.bool false), 1, 1) := by kernel_rfl
def zs : List Int := List.replicate 64 0
theorem zs_len : zs.length = 64 := rfl
/-- A new row of 64 zeros. -/
theorem Sep.made {w0 u : World} {a l : List It} (h : Sep w0 (a ++ l) u) : Sep w0 (a ++ (l ++ [brI w0.heap.size ⟨.slice (some ⟨u.heap.size, 0, none⟩) 64 64, zs⟩])) (u.alloc (.cells (u8s zs).toArray 5)) := by
  have h1 := World.ownsRow_lit (base := u.heap.size) (e := 5) (size := 1) u (u8s (List.replicate 64 0)).toArray 64 (Nat.le_refl _) (by simp [maxLen]) (by simp [u8s])
  have := Sep.lastA h (be1 u (.cells (u8s (List.replicate 64 0)).toArray 5)) h1
  exact this
theorem exec_makez {op : Oper} {a : Act} {w : World} (ho : op.op = .makeSlice 22 (.const (.int .i64 64)) (.const (.int .i64 64))) :
    (execOp a.eval op).run Try.prog w = .ok (.value (.slice (some ⟨w.heap.size, 0, none⟩) 64 64)) (w.alloc (.cells (u8s zs).toArray 5)) := exec_make64 ho
theorem new_rel_start (b c : Bool) : Rel ⟨[], [], [], [], false, false, -1⟩ (new 0) := ⟨rfl, rfl, rfl, rfl, rfl, rfl, rfl⟩
theorem new_rel_next {m : Md} {k : Nat} (h : Rel m (new k)) (x y : Br) (hx : x.l = zs) (hy : y.l = zs) : Rel { m with rests := m.rests ++ [x], meants := m.meants ++ [y], losts := m.losts ++ [false] } (new (k + 1)) := by
  obtain ⟨h1, h2, h3, h4, h5, h6, h7⟩ := h
  refine ⟨?_, ?_, ?_, h4, h5, h6, h7⟩
  · show (m.rests ++ [x]).map _ = (List.replicate (k + 1) _).map _
    rw [List.replicate_succ', List.map_append, List.map_append, h1]
    simp [hx, new, zs, Sec.all]
  · show (m.meants ++ [y]).map _ = (List.replicate (k + 1) _).map _
    rw [List.replicate_succ', List.map_append, List.map_append, h2]
    simp [hy, new, zs, Sec.all]
  · show m.losts ++ [false] = (List.replicate (k + 1) _).map _
    rw [List.replicate_succ', List.map_append, h3]
    simp [new]
theorem new_len (k : Nat) : (new k).places.length = k := by simp [new]
theorem step_made {P : Program} {ops : Array Oper} {o : Oper} {a : Act} {w : World} {K : Act → World → Prop} {Q : Exit → Act → World → Prop} {E : Prop} (hgd : o.guard = none) (v : Value) (w' : World) (hx : (execOp a.eval o).run P w = .ok (.value v) w') (h : K (a.put o.dst v) w') :
    if Region.wanted o (yielded ops a.tmps) = true then Oper.wp P o a w K Q else E := step_value hgd v w' hx h
set_option maxHeartbeats 1000000 in
theorem rnew_bad (n : Int) (h : n < 1 ∨ 1024 < n) (w : World) : Calls Try.prog 28 #[.int .i64 n] w fun e w' => ∃ g, e = .returned (.tuple #[.pointer (some ⟨g, 0, none⟩), .bool false]) ∧ Below w.heap.size w w' := by
  by_cases h1 : n < 1
  · clear h
    go_enter Try.func28, Try.ntmps28
    go_wp2_with fail
    go_ret2
    exact ⟨_, rfl, be1 _ _⟩
  · have h2 : 1024 < n := by omega
    have h1' : decide (n < 1) = false := by simpa using h1
    clear h h1
    go_enter Try.func28, Try.ntmps28
    go_wp2_with fail
    go_ret2
    exact ⟨_, rfl, be1 _ _⟩
set_option maxRecDepth 100000 in
set_option maxHeartbeats 8000000 in
theorem rnew_is (n : Int) (h1 : 1 ≤ n) (h2 : n ≤ 1024) {w0 : World} {l : List It} (w : World) (hS : Sep w0 l w) : Calls Try.prog 28 #[.int .i64 n] w fun e w' =>
    ∃ g sv mv lv m, e = .returned (.tuple #[.pointer (some ⟨g, 0, none⟩), .bool true]) ∧ Rel m (new n.toNat) ∧ Sep w0 (mI w0.heap.size g sv mv lv (.slice none 0 0) m ++ l) w' := by
  have h1' : decide (n < 1) = false := by simp; omega
  have h2' : decide (1024 < n) = false := by simp; omega
  obtain ⟨i0, hi, hz0, hz1, hz2⟩ := info_parts info_bslice
  obtain ⟨j0, hj, hj0, hj1, hj2⟩ := info_parts info_bool
  obtain ⟨g, hg⟩ : ∃ g, g = w.heap.size := ⟨_, rfl⟩
  obtain ⟨N, hN⟩ : ∃ N : Nat, n = N := ⟨n.toNat, by omega⟩
  subst hN
  have HS : Hid (Sep w0 (mI w0.heap.size g (.slice none 0 0) (.slice none 0 0) (.slice none 0 0) (.slice none 0 0) ⟨[], [], [], [], false, false, -1⟩ ++ l) (w.alloc (.cells #[.slice none 0 0, .slice none 0 0, .slice none 0 0, .slice none 0 0, .bool false, .bool false, .int .i64 (-1)] 67))) := by
    rw [hg]
    have := hS.alloc 67 [.slice none 0 0, .slice none 0 0, .slice none 0 0, .slice none 0 0, .bool false, .bool false, .int .i64 (-1)]
    have e1 := (((((this.empty w0.heap.size 93 2).empty w0.heap.size 4 1).empty w0.heap.size 22 1).empty w0.heap.size 22 1)).perm (List.perm_middle (l₁ := [_, _, _, _]))
    exact e1
  clear hS
  go_enter Try.func28, Try.ntmps28
  go_wp2_with fail
  rw [← hg]
  obtain ⟨U, hU⟩ : ∃ U : World, U = w.alloc (.cells #[.slice none 0 0, .slice none 0 0, .slice none 0 0, .slice none 0 0, .bool false, .bool false, .int .i64 (-1)] 67) := ⟨_, rfl⟩
  rw [← hU] at HS ⊢
  clear hU hg
  go_loopw [5] (fun i wr => ∃ (k : Nat) (sv mv lv : Value) (m : Md), k ≤ N ∧ i = .int .i64 k ∧ Rel m (new k) ∧ Sep w0 (mI w0.heap.size g sv mv lv (.slice none 0 0) m ++ l) wr) (fun i _ => N - (intOf i).toNat)
  case atStart => exact ⟨0, _, _, _, _, Nat.zero_le _, rfl, new_rel_start false false, HS.out⟩
  case round =>
    obtain ⟨k, sv, mv, lv, m, hk, rfl, hrel', hs⟩ := hrel
    have HRL := Lib.hid hrel'
    have HS1 := Lib.hid hs
    clear HS
    have hk0 : (0 : Int) ≤ (k : Int) := by omega
    by_cases hlt : k < N
    · have hk1 : (k : Int) < (N : Int) := by omega
      have hR1 := hrel'.lr; have hR2 := hrel'.lm; have hR3 := hrel'.ll
      rw [new_len] at hR1 hR2 hR3
      obtain ⟨sA, sc, hsv, hy1, hy2⟩ := (Row.of_own (mI_rests hs)).slice
      obtain ⟨mA, mc, hmv, hy3, hy4⟩ := (Row.of_own (mI_meants hs)).slice
      obtain ⟨lA, lc, hlv, hy5, hy6⟩ := (Row.of_own (mI_losts hs)).slice
      rw [hR1] at hsv; rw [hR2] at hmv; rw [hR3] at hlv
      subst hsv hmv hlv
      clear hy1 hy2 hy3 hy4 hy5 hy6 hs hrel'
      have HD := Lib.hid HS1.out.drew
      have hk9 : k ≤ 1024 := by omega
      clear hlt
      go_wp2_with fail
      obtain ⟨V0, hV0⟩ : ∃ V : World, V = wr.drew := ⟨_, rfl⟩
      rw [← hV0] at HD
      have cD := (mI_box HD.out).cell 0
      simp only [mdC, List.getElem?_cons_zero, List.getElem?_cons_succ] at cD
      have HE1 := Lib.hid (Sep.made HD.out)
      have HF1 := Lib.hid (HE1.out.fresh (.cells #[.slice (some ⟨V0.heap.size, 0, none⟩) 64 64] 22))
      have HN1 : Hid (Whole ((V0.alloc (.cells (u8s zs).toArray 5)).alloc (.cells #[.slice (some ⟨V0.heap.size, 0, none⟩) 64 64] 22)) (V0.heap.size + 1) 22 [.slice (some ⟨V0.heap.size, 0, none⟩) 64 64]) := by
        have := Whole.new (V0.alloc (.cells (u8s zs).toArray 5)) 22 [.slice (some ⟨V0.heap.size, 0, none⟩) 64 64]
        rw [show (V0.alloc (.cells (u8s zs).toArray 5)).heap.size = V0.heap.size + 1 from by simp] at this
        exact this
      have HO1 := mI_rests HF1.out
      rw [hR1] at HO1
      have HO1 := Lib.hid HO1
      have hzz1 := HD.out.size
      have cE1 := (mI_box HE1.out).cell 0
      have cF1 := (mI_box HF1.out).cell 0
      simp only [mdC, List.getElem?_cons_zero, List.getElem?_cons_succ] at cE1 cF1
      refine wp_region_held_drew (S := (fun _ : World => True)) (by kernel_rfl) (trivial) (fun HS => ?_)
      rw [← hV0]
      clear hV0
      refine handTake 0 (some 20) ?_ rfl rfl (by kernel_rfl) (by kernel_rfl) (by kernel_rfl) (fun _ _ _ h => h) (by rfl) ?_ HS ?_
      rotate_left
      · (intro u hu; (try dsimp only at hu); go_simp; try with_reducible rfl)
      simp only [Act.put, List.setIfInBounds_toArray, List.set_cons_zero, List.set_cons_succ]
      refine handTake 1 (some 21) ?_ rfl rfl (by kernel_rfl) (by kernel_rfl) (by kernel_rfl) (fun _ _ _ h => h) (by rfl) ?_ HS ?_
      rotate_left
      · (intro u hu; (try dsimp only at hu); go_simp; try with_reducible rfl)
      simp only [Act.put, List.setIfInBounds_toArray, List.set_cons_zero, List.set_cons_succ]
      refine handTake 2 (some 22) ?_ rfl rfl (by kernel_rfl) (by kernel_rfl) (by kernel_rfl) (fun _ _ _ h => h) (by rfl) ?_ HS ?_
      rotate_left
      · (intro u hu; (try dsimp only at hu); go_simp; try with_reducible rfl)
      simp only [Act.put, List.setIfInBounds_toArray, List.set_cons_zero, List.set_cons_succ]
      refine handTake 3 (some 23) ?_ rfl rfl (by kernel_rfl) (by kernel_rfl) (by kernel_rfl) (fun _ _ _ h => h) (by rfl) ?_ HS ?_
      rotate_left
      · (intro u hu; (try dsimp only at hu); go_simp; try with_reducible rfl)
      simp only [Act.put, List.setIfInBounds_toArray, List.set_cons_zero, List.set_cons_succ]
      refine wpAnyH_ready (rs := [4, 5]) (by kernel_rfl) (by simp) ?_
      refine AllReadyH.cons rfl (fun K hK => ?_) ?_
      · clear HS
        go_simp
        refine hK.out _ _ (trivial) (fun HS => ?_)
        clear hK
        try simp only [Act.put, List.setIfInBounds_toArray, List.set_cons_zero, List.set_cons_succ]
        refine wpAnyH_ready (rs := [5]) (by kernel_rfl) (by simp) ?_
        refine AllReadyH.cons rfl (fun K hK => ?_) AllReadyH.nil
        clear HS
        refine step_made rfl _ _ (exec_makez rfl) ?_
        refine hK.out _ _ (trivial) (fun HS => ?_)
        clear hK
        try simp only [Act.put, List.setIfInBounds_toArray, List.set_cons_zero, List.set_cons_succ]
        refine wpAnyH_ready (rs := [6]) (by kernel_rfl) (by simp) ?_
        refine AllReadyH.cons rfl (fun K hK => ?_) AllReadyH.nil
        clear HS
        go_simp
        refine hK.out _ _ (trivial) (fun HS => ?_)
        clear hK
        try simp only [Act.put, List.setIfInBounds_toArray, List.set_cons_zero, List.set_cons_succ]
        refine wpAnyH_ready (rs := [7]) (by kernel_rfl) (by simp) ?_
        refine AllReadyH.cons rfl (fun K hK => ?_) AllReadyH.nil
        clear HS
        refine step_append_foot _ rfl (.tmp 24) (.tmp 26) _ (by rfl) w0.heap.size 22 i0 _ 1 24 Try.underlying64 hi hz0 hz1 hz2 rfl (by decide) (.slice sA k sc) k (m.rests.map Br.v) (by rfl) HO1.out (V0.heap.size + 1 + 1) _ 1 [.slice (some ⟨V0.heap.size, 0, none⟩) 64 64] (by rfl) (Row.blk HN1.out rfl (by simp) (by simp [maxLen])) (by simp) (by intro v hv; simp at hv; subst hv; rfl) (by unfold maxLen; omega) (by omega) (by simp; omega) ?_
        intro v1 w1 h7 hg7 hv7
        have HG1 := Lib.hid (mI_grownR (x := ⟨.slice (some ⟨V0.heap.size, 0, none⟩) 64 64, zs⟩) HF1.out h7 (by rw [hR1]) hg7 hv7)
        have c71 := HG1.out.1.cell 0
        have f71 := HG1.out.1.free 0
        simp only [mdC, List.getElem?_cons_zero, List.getElem?_cons_succ] at c71
        obtain ⟨A71, c771, hv77, hy1, hy2⟩ := (Row.of_own h7).slice
        subst hv77
        clear h7 hg7 hv7 hy1 hy2
        refine hK.out _ _ (trivial) (fun HS => ?_)
        clear hK
        try simp only [Act.put, List.setIfInBounds_toArray, List.set_cons_zero, List.set_cons_succ]
        refine handTake 8 (some 28) ?_ rfl rfl (by kernel_rfl) (by kernel_rfl) (by kernel_rfl) (fun _ _ _ h => h) (by rfl) ?_ HS ?_
        rotate_left
        · (intro u hu; (try dsimp only at hu); go_simp; try with_reducible rfl)
        simp only [Act.put, List.setIfInBounds_toArray, List.set_cons_zero, List.set_cons_succ]
        refine handTake 9 (some 29) ?_ rfl rfl (by kernel_rfl) (by kernel_rfl) (by kernel_rfl) (fun _ _ _ h => h) (by rfl) ?_ HS ?_
        rotate_left
        · (intro u hu; (try dsimp only at hu); go_simp; try with_reducible rfl)
        simp only [Act.put, List.setIfInBounds_toArray, List.set_cons_zero, List.set_cons_succ]
        refine wpAnyH_ready (rs := [10]) (by kernel_rfl) (by simp) ?_
        refine AllReadyH.cons rfl (fun K hK => ?_) AllReadyH.nil
        clear HS
        go_simp
        refine hK.out _ _ (trivial) (fun HS => ?_)
        clear hK
        try simp only [Act.put, List.setIfInBounds_toArray, List.set_cons_zero, List.set_cons_succ]
        refine wpAnyH_done (by kernel_rfl) ?_ _
        clear HS
        have HX := HG1.out.2
        obtain ⟨U1, hU1⟩ : ∃ V : World, V = w1.setCell ⟨g, 0, none⟩ (.slice A71 (k + 1) c771) := ⟨_, rfl⟩
        rw [← hU1] at HX ⊢
        clear hU1
        have HD2 := Lib.hid HX.drew
        clear HX
        go_wp2_with fail
        obtain ⟨V1, hV1⟩ : ∃ V : World, V = U1.drew := ⟨_, rfl⟩
        rw [← hV1] at HD2
        have cD2 := (mI_box HD2.out).cell 1
        simp only [mdC, List.getElem?_cons_zero, List.getElem?_cons_succ] at cD2
        have HE2 := Lib.hid (Sep.made HD2.out)
        have HF2 := Lib.hid (HE2.out.fresh (.cells #[.slice (some ⟨V1.heap.size, 0, none⟩) 64 64] 22))
        have HN2 : Hid (Whole ((V1.alloc (.cells (u8s zs).toArray 5)).alloc (.cells #[.slice (some ⟨V1.heap.size, 0, none⟩) 64 64] 22)) (V1.heap.size + 1) 22 [.slice (some ⟨V1.heap.size, 0, none⟩) 64 64]) := by
          have := Whole.new (V1.alloc (.cells (u8s zs).toArray 5)) 22 [.slice (some ⟨V1.heap.size, 0, none⟩) 64 64]
          rw [show (V1.alloc (.cells (u8s zs).toArray 5)).heap.size = V1.heap.size + 1 from by simp] at this
          exact this
        have HO2 := mI_meants HF2.out
        rw [hR2] at HO2
        have HO2 := Lib.hid HO2
        have hzz2 := HD2.out.size
        have cE2 := (mI_box HE2.out).cell 1
        have cF2 := (mI_box HF2.out).cell 1
        simp only [mdC, List.getElem?_cons_zero, List.getElem?_cons_succ] at cE2 cF2
        refine wp_region_held_drew (S := (fun _ : World => True)) (by kernel_rfl) (trivial) (fun HS => ?_)
        rw [← hV1]
        clear hV1
        refine handTake 0 (some 30) ?_ rfl rfl (by kernel_rfl) (by kernel_rfl) (by kernel_rfl) (fun _ _ _ h => h) (by rfl) ?_ HS ?_
        rotate_left
        · (intro u hu; (try dsimp only at hu); go_simp; try with_reducible rfl)
        simp only [Act.put, List.setIfInBounds_toArray, List.set_cons_zero, List.set_cons_succ]
        refine handTake 1 (some 31) ?_ rfl rfl (by kernel_rfl) (by kernel_rfl) (by kernel_rfl) (fun _ _ _ h => h) (by rfl) ?_ HS ?_
        rotate_left
        · (intro u hu; (try dsimp only at hu); go_simp; try with_reducible rfl)
        simp only [Act.put, List.setIfInBounds_toArray, List.set_cons_zero, List.set_cons_succ]
        refine handTake 2 (some 32) ?_ rfl rfl (by kernel_rfl) (by kernel_rfl) (by kernel_rfl) (fun _ _ _ h => h) (by rfl) ?_ HS ?_
        rotate_left
        · (intro u hu; (try dsimp only at hu); go_simp; try with_reducible rfl)
        simp only [Act.put, List.setIfInBounds_toArray, List.set_cons_zero, List.set_cons_succ]
        refine handTake 3 (some 33) ?_ rfl rfl (by kernel_rfl) (by kernel_rfl) (by kernel_rfl) (fun _ _ _ h => h) (by rfl) ?_ HS ?_
        rotate_left
        · (intro u hu; (try dsimp only at hu); go_simp; try with_reducible rfl)
        simp only [Act.put, List.setIfInBounds_toArray, List.set_cons_zero, List.set_cons_succ]
        refine wpAnyH_ready (rs := [4, 5]) (by kernel_rfl) (by simp) ?_
        refine AllReadyH.cons rfl (fun K hK => ?_) ?_
        · clear HS
          go_simp
          refine hK.out _ _ (trivial) (fun HS => ?_)
          clear hK
          try simp only [Act.put, List.setIfInBounds_toArray, List.set_cons_zero, List.set_cons_succ]
          refine wpAnyH_ready (rs := [5]) (by kernel_rfl) (by simp) ?_
          refine AllReadyH.cons rfl (fun K hK => ?_) AllReadyH.nil
          clear HS
          refine step_made rfl _ _ (exec_makez rfl) ?_
          refine hK.out _ _ (trivial) (fun HS => ?_)
          clear hK
          try simp only [Act.put, List.setIfInBounds_toArray, List.set_cons_zero, List.set_cons_succ]
          refine wpAnyH_ready (rs := [6]) (by kernel_rfl) (by simp) ?_
          refine AllReadyH.cons rfl (fun K hK => ?_) AllReadyH.nil
          clear HS
          go_simp
          refine hK.out _ _ (trivial) (fun HS => ?_)
          clear hK
          try simp only [Act.put, List.setIfInBounds_toArray, List.set_cons_zero, List.set_cons_succ]
          refine wpAnyH_ready (rs := [7]) (by kernel_rfl) (by simp) ?_
          refine AllReadyH.cons rfl (fun K hK => ?_) AllReadyH.nil
          clear HS
          refine step_append_foot _ rfl (.tmp 34) (.tmp 36) _ (by rfl) w0.heap.size 22 i0 _ 1 24 Try.underlying64 hi hz0 hz1 hz2 rfl (by decide) (.slice mA k mc) k (m.meants.map Br.v) (by rfl) HO2.out (V1.heap.size + 1 + 1) _ 1 [.slice (some ⟨V1.heap.size, 0, none⟩) 64 64] (by rfl) (Row.blk HN2.out rfl (by simp) (by simp [maxLen])) (by simp) (by intro v hv; simp at hv; subst hv; rfl) (by unfold maxLen; omega) (by omega) (by simp; omega) ?_
          intro v2 w2 h7 hg7 hv7
          have HG2 := Lib.hid (mI_grownM (x := ⟨.slice (some ⟨V1.heap.size, 0, none⟩) 64 64, zs⟩) HF2.out h7 (by show k + 1 = m.meants.length + 1; omega) hg7 hv7)
          have c72 := HG2.out.1.cell 1
          have f72 := HG2.out.1.free 1
          simp only [mdC, List.getElem?_cons_zero, List.getElem?_cons_succ] at c72
          obtain ⟨A72, c772, hv77, hy1, hy2⟩ := (Row.of_own h7).slice
          subst hv77
          clear h7 hg7 hv7 hy1 hy2
          refine hK.out _ _ (trivial) (fun HS => ?_)
          clear hK
          try simp only [Act.put, List.setIfInBounds_toArray, List.set_cons_zero, List.set_cons_succ]
          refine handTake 8 (some 38) ?_ rfl rfl (by kernel_rfl) (by kernel_rfl) (by kernel_rfl) (fun _ _ _ h => h) (by rfl) ?_ HS ?_
          rotate_left
          · (intro u hu; (try dsimp only at hu); go_simp; try with_reducible rfl)
          simp only [Act.put, List.setIfInBounds_toArray, List.set_cons_zero, List.set_cons_succ]
          refine handTake 9 (some 39) ?_ rfl rfl (by kernel_rfl) (by kernel_rfl) (by kernel_rfl) (fun _ _ _ h => h) (by rfl) ?_ HS ?_
          rotate_left
          · (intro u hu; (try dsimp only at hu); go_simp; try with_reducible rfl)
          simp only [Act.put, List.setIfInBounds_toArray, List.set_cons_zero, List.set_cons_succ]
          refine wpAnyH_ready (rs := [10]) (by kernel_rfl) (by simp) ?_
          refine AllReadyH.cons rfl (fun K hK => ?_) AllReadyH.nil
          clear HS
          go_simp
          refine hK.out _ _ (trivial) (fun HS => ?_)
          clear hK
          try simp only [Act.put, List.setIfInBounds_toArray, List.set_cons_zero, List.set_cons_succ]
          refine wpAnyH_done (by kernel_rfl) ?_ _
          clear HS
          clear c71 f71 c72 f72 cE1 cF1 cE2 cF2 cD cD2
          have HX := HG2.out.2
          have HO9 := mI_losts HX
          rw [hR3] at HO9
          have c9 := (mI_box HX).cell 2
          simp only [mdC, List.getElem?_cons_zero, List.getElem?_cons_succ] at c9
          have hz9 := HX.size
          obtain ⟨V9, hV9⟩ : ∃ V : World, V = w2.setCell ⟨g, 1, none⟩ (.slice A72 (k + 1) c772) := ⟨_, rfl⟩
          rw [← hV9] at HX HO9 c9 hz9 ⊢
          have HX := Lib.hid HX
          have HO9 := Lib.hid HO9
          have HF9 := Lib.hid (HX.out.fresh (.cells #[.bool false] 4))
          have HN9 : Hid (Whole (V9.alloc (.cells #[.bool false] 4)) V9.heap.size 4 [.bool false]) := Whole.new _ _ _
          have HO8 := mI_losts HF9.out
          rw [hR3] at HO8
          have HO8 := Lib.hid HO8
          have c8 := (mI_box HF9.out).cell 2
          simp only [mdC, List.getElem?_cons_zero, List.getElem?_cons_succ] at c8
          clear hV9
          go_wp2_with (at_builtin; refine wpList_append_foot _ rfl (.tmp 44) (.tmp 45) _ rfl w0.heap.size 4 j0 _ 1 1 Try.underlying23 hj hj0 hj1 hj2 rfl (by decide) (.slice lA k lc) k (bools m.losts) rfl HO8.out (V9.heap.size + 1) _ 1 [.bool false] rfl (Row.blk HN9.out rfl (by simp) (by simp [maxLen])) (by simp) (by intro v hv; simp at hv; subst hv; rfl) (by unfold maxLen; omega) (by omega) (by simp; omega) ?_; intro v3 w3 h7 hg7 hv7; have HG3 := Lib.hid (mI_grownL (x := false) HF9.out h7 (by show k + 1 = m.losts.length + 1; omega) hg7 hv7); have c73 := HG3.out.1.cell 2; have f73 := HG3.out.1.free 2; simp only [mdC, List.getElem?_cons_zero, List.getElem?_cons_succ] at c73; obtain ⟨A73, c773, hv77, hy1, hy2⟩ := (Row.of_own h7).slice; subst hv77; clear h7 hg7 hv7 hy1 hy2)
          go_roundw
          case rel => exact ⟨k + 1, _, _, _, _, by omega, by go_num, new_rel_next HRL.out _ _ rfl rfl, HG3.out.2⟩
          case measure => show N - ((k : Int) + 1).toNat < N - (k : Int).toNat; omega
        refine AllReadyH.cons rfl (fun K hK => ?_) ?_
        · clear HS
          refine step_made rfl _ _ (exec_makez rfl) ?_
          refine hK.out _ _ (trivial) (fun HS => ?_)
          clear hK
          try simp only [Act.put, List.setIfInBounds_toArray, List.set_cons_zero, List.set_cons_succ]
          refine wpAnyH_ready (rs := [4, 6]) (by kernel_rfl) (by simp) ?_
          refine AllReadyH.cons rfl (fun K hK => ?_) ?_
          · clear HS
            go_simp
            refine hK.out _ _ (trivial) (fun HS => ?_)
            clear hK
            try simp only [Act.put, List.setIfInBounds_toArray, List.set_cons_zero, List.set_cons_succ]
            refine wpAnyH_ready (rs := [6]) (by kernel_rfl) (by simp) ?_
            refine AllReadyH.cons rfl (fun K hK => ?_) AllReadyH.nil
            clear HS
            go_simp
            refine hK.out _ _ (trivial) (fun HS => ?_)
            clear hK
            try simp only [Act.put, List.setIfInBounds_toArray, List.set_cons_zero, List.set_cons_succ]
            refine wpAnyH_ready (rs := [7]) (by kernel_rfl) (by simp) ?_
            refine AllReadyH.cons rfl (fun K hK => ?_) AllReadyH.nil
            clear HS
            refine step_append_foot _ rfl (.tmp 34) (.tmp 36) _ (by rfl) w0.heap.size 22 i0 _ 1 24 Try.underlying64 hi hz0 hz1 hz2 rfl (by decide) (.slice mA k mc) k (m.meants.map Br.v) (by rfl) HO2.out (V1.heap.size + 1 + 1) _ 1 [.slice (some ⟨V1.heap.size, 0, none⟩) 64 64] (by rfl) (Row.blk HN2.out rfl (by simp) (by simp [maxLen])) (by simp) (by intro v hv; simp at hv; subst hv; rfl) (by unfold maxLen; omega) (by omega) (by simp; omega) ?_
            intro v2 w2 h7 hg7 hv7
            have HG2 := Lib.hid (mI_grownM (x := ⟨.slice (some ⟨V1.heap.size, 0, none⟩) 64 64, zs⟩) HF2.out h7 (by show k + 1 = m.meants.length + 1; omega) hg7 hv7)
            have c72 := HG2.out.1.cell 1
            have f72 := HG2.out.1.free 1
            simp only [mdC, List.getElem?_cons_zero, List.getElem?_cons_succ] at c72
            obtain ⟨A72, c772, hv77, hy1, hy2⟩ := (Row.of_own h7).slice
            subst hv77
            clear h7 hg7 hv7 hy1 hy2
            refine hK.out _ _ (trivial) (fun HS => ?_)
            clear hK
            try simp only [Act.put, List.setIfInBounds_toArray, List.set_cons_zero, List.set_cons_succ]
            refine handTake 8 (some 38) ?_ rfl rfl (by kernel_rfl) (by kernel_rfl) (by kernel_rfl) (fun _ _ _ h => h) (by rfl) ?_ HS ?_
            rotate_left
            · (intro u hu; (try dsimp only at hu); go_simp; try with_reducible rfl)
            simp only [Act.put, List.setIfInBounds_toArray, List.set_cons_zero, List.set_cons_succ]
            refine handTake 9 (some 39) ?_ rfl rfl (by kernel_rfl) (by kernel_rfl) (by kernel_rfl) (fun _ _ _ h => h) (by rfl) ?_ HS ?_
            rotate_left
            · (intro u hu; (try dsimp only at hu); go_simp; try with_reducible rfl)
            simp only [Act.put, List.setIfInBounds_toArray, List.set_cons_zero, List.set_cons_succ]
            refine wpAnyH_ready (rs := [10]) (by kernel_rfl) (by simp) ?_
            refine AllReadyH.cons rfl (fun K hK => ?_) AllReadyH.nil
            clear HS
            go_simp
            refine hK.out _ _ (trivial) (fun HS => ?_)
            clear hK
            try simp only [Act.put, List.setIfInBounds_toArray, List.set_cons_zero, List.set_cons_succ]
            refine wpAnyH_done (by kernel_rfl) ?_ _
            clear HS
            clear c71 f71 c72 f72 cE1 cF1 cE2 cF2 cD cD2
            have HX := HG2.out.2
            have HO9 := mI_losts HX
            rw [hR3] at HO9
            have c9 := (mI_box HX).cell 2
            simp only [mdC, List.getElem?_cons_zero, List.getElem?_cons_succ] at c9
            have hz9 := HX.size
            obtain ⟨V9, hV9⟩ : ∃ V : World, V = w2.setCell ⟨g, 1, none⟩ (.slice A72 (k + 1) c772) := ⟨_, rfl⟩
            rw [← hV9] at HX HO9 c9 hz9 ⊢
            have HX := Lib.hid HX
            have HO9 := Lib.hid HO9
            have HF9 := Lib.hid (HX.out.fresh (.cells #[.bool false] 4))
            have HN9 : Hid (Whole (V9.alloc (.cells #[.bool false] 4)) V9.heap.size 4 [.bool false]) := Whole.new _ _ _
            have HO8 := mI_losts HF9.out
            rw [hR3] at HO8
            have HO8 := Lib.hid HO8
            have c8 := (mI_box HF9.out).cell 2
            simp only [mdC, List.getElem?_cons_zero, List.getElem?_cons_succ] at c8
            clear hV9
            go_wp2_with (at_builtin; refine wpList_append_foot _ rfl (.tmp 44) (.tmp 45) _ rfl w0.heap.size 4 j0 _ 1 1 Try.underlying23 hj hj0 hj1 hj2 rfl (by decide) (.slice lA k lc) k (bools m.losts) rfl HO8.out (V9.heap.size + 1) _ 1 [.bool false] rfl (Row.blk HN9.out rfl (by simp) (by simp [maxLen])) (by simp) (by intro v hv; simp at hv; subst hv; rfl) (by unfold maxLen; omega) (by omega) (by simp; omega) ?_; intro v3 w3 h7 hg7 hv7; have HG3 := Lib.hid (mI_grownL (x := false) HF9.out h7 (by show k + 1 = m.losts.length + 1; omega) hg7 hv7); have c73 := HG3.out.1.cell 2; have f73 := HG3.out.1.free 2; simp only [mdC, List.getElem?_cons_zero, List.getElem?_cons_succ] at c73; obtain ⟨A73, c773, hv77, hy1, hy2⟩ := (Row.of_own h7).slice; subst hv77; clear h7 hg7 hv7 hy1 hy2)
            go_roundw
            case rel => exact ⟨k + 1, _, _, _, _, by omega, by go_num, new_rel_next HRL.out _ _ rfl rfl, HG3.out.2⟩
            case measure => show N - ((k : Int) + 1).toNat < N - (k : Int).toNat; omega
          refine AllReadyH.cons rfl (fun K hK => ?_) ?_
          · clear HS
            go_simp
            refine hK.out _ _ (trivial) (fun HS => ?_)
            clear hK
            try simp only [Act.put, List.setIfInBounds_toArray, List.set_cons_zero, List.set_cons_succ]
            refine wpAnyH_ready (rs := [4]) (by kernel_rfl) (by simp) ?_
            refine AllReadyH.cons rfl (fun K hK => ?_) AllReadyH.nil
            clear HS
            go_simp
            refine hK.out _ _ (trivial) (fun HS => ?_)
            clear hK
            try simp only [Act.put, List.setIfInBounds_toArray, List.set_cons_zero, List.set_cons_succ]
            refine wpAnyH_ready (rs := [7]) (by kernel_rfl) (by simp) ?_
            refine AllReadyH.cons rfl (fun K hK => ?_) AllReadyH.nil
            clear HS
            refine step_append_foot _ rfl (.tmp 34) (.tmp 36) _ (by rfl) w0.heap.size 22 i0 _ 1 24 Try.underlying64 hi hz0 hz1 hz2 rfl (by decide) (.slice mA k mc) k (m.meants.map Br.v) (by rfl) HO2.out (V1.heap.size + 1 + 1) _ 1 [.slice (some ⟨V1.heap.size, 0, none⟩) 64 64] (by rfl) (Row.blk HN2.out rfl (by simp) (by simp [maxLen])) (by simp) (by intro v hv; simp at hv; subst hv; rfl) (by unfold maxLen; omega) (by omega) (by simp; omega) ?_
            intro v2 w2 h7 hg7 hv7
            have HG2 := Lib.hid (mI_grownM (x := ⟨.slice (some ⟨V1.heap.size, 0, none⟩) 64 64, zs⟩) HF2.out h7 (by show k + 1 = m.meants.length + 1; omega) hg7 hv7)
            have c72 := HG2.out.1.cell 1
            have f72 := HG2.out.1.free 1
            simp only [mdC, List.getElem?_cons_zero, List.getElem?_cons_succ] at c72
            obtain ⟨A72, c772, hv77, hy1, hy2⟩ := (Row.of_own h7).slice
            subst hv77
            clear h7 hg7 hv7 hy1 hy2
            refine hK.out _ _ (trivial) (fun HS => ?_)
            clear hK
            try simp only [Act.put, List.setIfInBounds_toArray, List.set_cons_zero, List.set_cons_succ]
            refine handTake 8 (some 38) ?_ rfl rfl (by kernel_rfl) (by kernel_rfl) (by kernel_rfl) (fun _ _ _ h => h) (by rfl) ?_ HS ?_
            rotate_left
            · (intro u hu; (try dsimp only at hu); go_simp; try with_reducible rfl)
            simp only [Act.put, List.setIfInBounds_toArray, List.set_cons_zero, List.set_cons_succ]
            refine handTake 9 (some 39) ?_ rfl rfl (by kernel_rfl) (by kernel_rfl) (by kernel_rfl) (fun _ _ _ h => h) (by rfl) ?_ HS ?_
            rotate_left
            · (intro u hu; (try dsimp only at hu); go_simp; try with_reducible rfl)
            simp only [Act.put, List.setIfInBounds_toArray, List.set_cons_zero, List.set_cons_succ]
            refine wpAnyH_ready (rs := [10]) (by kernel_rfl) (by simp) ?_
            refine AllReadyH.cons rfl (fun K hK => ?_) AllReadyH.nil
            clear HS
            go_simp
            refine hK.out _ _ (trivial) (fun HS => ?_)
            clear hK
            try simp only [Act.put, List.setIfInBounds_toArray, List.set_cons_zero, List.set_cons_succ]
            refine wpAnyH_done (by kernel_rfl) ?_ _
            clear HS
            clear c71 f71 c72 f72 cE1 cF1 cE2 cF2 cD cD2
            have HX := HG2.out.2
            have HO9 := mI_losts HX
            rw [hR3] at HO9
            have c9 := (mI_box HX).cell 2
            simp only [mdC, List.getElem?_cons_zero, List.getElem?_cons_succ] at c9
            have hz9 := HX.size
            obtain ⟨V9, hV9⟩ : ∃ V : World, V = w2.setCell ⟨g, 1, none⟩ (.slice A72 (k + 1) c772) := ⟨_, rfl⟩
            rw [← hV9] at HX HO9 c9 hz9 ⊢
            have HX := Lib.hid HX
            have HO9 := Lib.hid HO9
            have HF9 := Lib.hid (HX.out.fresh (.cells #[.bool false] 4))
            have HN9 : Hid (Whole (V9.alloc (.cells #[.bool false] 4)) V9.heap.size 4 [.bool false]) := Whole.new _ _ _
            have HO8 := mI_losts HF9.out
            rw [hR3] at HO8
            have HO8 := Lib.hid HO8
            have c8 := (mI_box HF9.out).cell 2
            simp only [mdC, List.getElem?_cons_zero, List.getElem?_cons_succ] at c8
            clear hV9
            go_wp2_with (at_builtin; refine wpList_append_foot _ rfl (.tmp 44) (.tmp 45) _ rfl w0.heap.size 4 j0 _ 1 1 Try.underlying23 hj hj0 hj1 hj2 rfl (by decide) (.slice lA k lc) k (bools m.losts) rfl HO8.out (V9.heap.size + 1) _ 1 [.bool false] rfl (Row.blk HN9.out rfl (by simp) (by simp [maxLen])) (by simp) (by intro v hv; simp at hv; subst hv; rfl) (by unfold maxLen; omega) (by omega) (by simp; omega) ?_; intro v3 w3 h7 hg7 hv7; have HG3 := Lib.hid (mI_grownL (x := false) HF9.out h7 (by show k + 1 = m.losts.length + 1; omega) hg7 hv7); have c73 := HG3.out.1.cell 2; have f73 := HG3.out.1.free 2; simp only [mdC, List.getElem?_cons_zero, List.getElem?_cons_succ] at c73; obtain ⟨A73, c773, hv77, hy1, hy2⟩ := (Row.of_own h7).slice; subst hv77; clear h7 hg7 hv7 hy1 hy2)
            go_roundw
            case rel => exact ⟨k + 1, _, _, _, _, by omega, by go_num, new_rel_next HRL.out _ _ rfl rfl, HG3.out.2⟩
            case measure => show N - ((k : Int) + 1).toNat < N - (k : Int).toNat; omega
          exact AllReadyH.nil
        exact AllReadyH.nil
      refine AllReadyH.cons rfl (fun K hK => ?_) ?_
      · clear HS
        refine step_made rfl _ _ (exec_makez rfl) ?_
        refine hK.out _ _ (trivial) (fun HS => ?_)
        clear hK
        try simp only [Act.put, List.setIfInBounds_toArray, List.set_cons_zero, List.set_cons_succ]
        refine wpAnyH_ready (rs := [4, 6]) (by kernel_rfl) (by simp) ?_
        refine AllReadyH.cons rfl (fun K hK => ?_) ?_
        · clear HS
          go_simp
          refine hK.out _ _ (trivial) (fun HS => ?_)
          clear hK
          try simp only [Act.put, List.setIfInBounds_toArray, List.set_cons_zero, List.set_cons_succ]
          refine wpAnyH_ready (rs := [6]) (by kernel_rfl) (by simp) ?_
          refine AllReadyH.cons rfl (fun K hK => ?_) AllReadyH.nil
          clear HS
          go_simp
          refine hK.out _ _ (trivial) (fun HS => ?_)
          clear hK
          try simp only [Act.put, List.setIfInBounds_toArray, List.set_cons_zero, List.set_cons_succ]
          refine wpAnyH_ready (rs := [7]) (by kernel_rfl) (by simp) ?_
          refine AllReadyH.cons rfl (fun K hK => ?_) AllReadyH.nil
          clear HS
          refine step_append_foot _ rfl (.tmp 24) (.tmp 26) _ (by rfl) w0.heap.size 22 i0 _ 1 24 Try.underlying64 hi hz0 hz1 hz2 rfl (by decide) (.slice sA k sc) k (m.rests.map Br.v) (by rfl) HO1.out (V0.heap.size + 1 + 1) _ 1 [.slice (some ⟨V0.heap.size, 0, none⟩) 64 64] (by rfl) (Row.blk HN1.out rfl (by simp) (by simp [maxLen])) (by simp) (by intro v hv; simp at hv; subst hv; rfl) (by unfold maxLen; omega) (by omega) (by simp; omega) ?_
          intro v1 w1 h7 hg7 hv7
          have HG1 := Lib.hid (mI_grownR (x := ⟨.slice (some ⟨V0.heap.size, 0, none⟩) 64 64, zs⟩) HF1.out h7 (by rw [hR1]) hg7 hv7)
          have c71 := HG1.out.1.cell 0
          have f71 := HG1.out.1.free 0
          simp only [mdC, List.getElem?_cons_zero, List.getElem?_cons_succ] at c71
          obtain ⟨A71, c771, hv77, hy1, hy2⟩ := (Row.of_own h7).slice
          subst hv77
          clear h7 hg7 hv7 hy1 hy2
          refine hK.out _ _ (trivial) (fun HS => ?_)
          clear hK
          try simp only [Act.put, List.setIfInBounds_toArray, List.set_cons_zero, List.set_cons_succ]
          refine handTake 8 (some 28) ?_ rfl rfl (by kernel_rfl) (by kernel_rfl) (by kernel_rfl) (fun _ _ _ h => h) (by rfl) ?_ HS ?_
          rotate_left
          · (intro u hu; (try dsimp only at hu); go_simp; try with_reducible rfl)
          simp only [Act.put, List.setIfInBounds_toArray, List.set_cons_zero, List.set_cons_succ]
          refine handTake 9 (some 29) ?_ rfl rfl (by kernel_rfl) (by kernel_rfl) (by kernel_rfl) (fun _ _ _ h => h) (by rfl) ?_ HS ?_
          rotate_left
          · (intro u hu; (try dsimp only at hu); go_simp; try with_reducible rfl)
          simp only [Act.put, List.setIfInBounds_toArray, List.set_cons_zero, List.set_cons_succ]
          refine wpAnyH_ready (rs := [10]) (by kernel_rfl) (by simp) ?_
          refine AllReadyH.cons rfl (fun K hK => ?_) AllReadyH.nil
          clear HS
          go_simp
          refine hK.out _ _ (trivial) (fun HS => ?_)
          clear hK
          try simp only [Act.put, List.setIfInBounds_toArray, List.set_cons_zero, List.set_cons_succ]
          refine wpAnyH_done (by kernel_rfl) ?_ _
          clear HS
          have HX := HG1.out.2
          obtain ⟨U1, hU1⟩ : ∃ V : World, V = w1.setCell ⟨g, 0, none⟩ (.slice A71 (k + 1) c771) := ⟨_, rfl⟩
          rw [← hU1] at HX ⊢
          clear hU1
          have HD2 := Lib.hid HX.drew
          clear HX
          go_wp2_with fail
          obtain ⟨V1, hV1⟩ : ∃ V : World, V = U1.drew := ⟨_, rfl⟩
          rw [← hV1] at HD2
          have cD2 := (mI_box HD2.out).cell 1
          simp only [mdC, List.getElem?_cons_zero, List.getElem?_cons_succ] at cD2
          have HE2 := Lib.hid (Sep.made HD2.out)
          have HF2 := Lib.hid (HE2.out.fresh (.cells #[.slice (some ⟨V1.heap.size, 0, none⟩) 64 64] 22))
          have HN2 : Hid (Whole ((V1.alloc (.cells (u8s zs).toArray 5)).alloc (.cells #[.slice (some ⟨V1.heap.size, 0, none⟩) 64 64] 22)) (V1.heap.size + 1) 22 [.slice (some ⟨V1.heap.size, 0, none⟩) 64 64]) := by
            have := Whole.new (V1.alloc (.cells (u8s zs).toArray 5)) 22 [.slice (some ⟨V1.heap.size, 0, none⟩) 64 64]
            rw [show (V1.alloc (.cells (u8s zs).toArray 5)).heap.size = V1.heap.size + 1 from by simp] at this
            exact this
          have HO2 := mI_meants HF2.out
          rw [hR2] at HO2
          have HO2 := Lib.hid HO2
          have hzz2 := HD2.out.size
          have cE2 := (mI_box HE2.out).cell 1
          have cF2 := (mI_box HF2.out).cell 1
          simp only [mdC, List.getElem?_cons_zero, List.getElem?_cons_succ] at cE2 cF2
          refine wp_region_held_drew (S := (fun _ : World => True)) (by kernel_rfl) (trivial) (fun HS => ?_)
          rw [← hV1]
          clear hV1
          refine handTake 0 (some 30) ?_ rfl rfl (by kernel_rfl) (by kernel_rfl) (by kernel_rfl) (fun _ _ _ h => h) (by rfl) ?_ HS ?_
          rotate_left
          · (intro u hu; (try dsimp only at hu); go_simp; try with_reducible rfl)
          simp only [Act.put, List.setIfInBounds_toArray, List.set_cons_zero, List.set_cons_succ]
          refine handTake 1 (some 31) ?_ rfl rfl (by kernel_rfl) (by kernel_rfl) (by kernel_rfl) (fun _ _ _ h => h) (by rfl) ?_ HS ?_
          rotate_left
          · (intro u hu; (try dsimp only at hu); go_simp; try with_reducible rfl)
          simp only [Act.put, List.setIfInBounds_toArray, List.set_cons_zero, List.set_cons_succ]
          refine handTake 2 (some 32) ?_ rfl rfl (by kernel_rfl) (by kernel_rfl) (by kernel_rfl) (fun _ _ _ h => h) (by rfl) ?_ HS ?_
          rotate_left
          · (intro u hu; (try dsimp only at hu); go_simp; try with_reducible rfl)
          simp only [Act.put, List.setIfInBounds_toArray, List.set_cons_zero, List.set_cons_succ]
          refine handTake 3 (some 33) ?_ rfl rfl (by kernel_rfl) (by kernel_rfl) (by kernel_rfl) (fun _ _ _ h => h) (by rfl) ?_ HS ?_
          rotate_left
          · (intro u hu; (try dsimp only at hu); go_simp; try with_reducible rfl)
          simp only [Act.put, List.setIfInBounds_toArray, List.set_cons_zero, List.set_cons_succ]
          refine wpAnyH_ready (rs := [4, 5]) (by kernel_rfl) (by simp) ?_
          refine AllReadyH.cons rfl (fun K hK => ?_) ?_
          · clear HS
            go_simp
            refine hK.out _ _ (trivial) (fun HS => ?_)
            clear hK
            try simp only [Act.put, List.setIfInBounds_toArray, List.set_cons_zero, List.set_cons_succ]
            refine wpAnyH_ready (rs := [5]) (by kernel_rfl) (by simp) ?_
            refine AllReadyH.cons rfl (fun K hK => ?_) AllReadyH.nil
            clear HS
            refine step_made rfl _ _ (exec_makez rfl) ?_
            refine hK.out _ _ (trivial) (fun HS => ?_)
            clear hK
            try simp only [Act.put, List.setIfInBounds_toArray, List.set_cons_zero, List.set_cons_succ]
            refine wpAnyH_ready (rs := [6]) (by kernel_rfl) (by simp) ?_
            refine AllReadyH.cons rfl (fun K hK => ?_) AllReadyH.nil
            clear HS
            go_simp
            refine hK.out _ _ (trivial) (fun HS => ?_)
            clear hK
            try simp only [Act.put, List.setIfInBounds_toArray, List.set_cons_zero, List.set_cons_succ]
            refine wpAnyH_ready (rs := [7]) (by kernel_rfl) (by simp) ?_
            refine AllReadyH.cons rfl (fun K hK => ?_) AllReadyH.nil
            clear HS
            refine step_append_foot _ rfl (.tmp 34) (.tmp 36) _ (by rfl) w0.heap.size 22 i0 _ 1 24 Try.underlying64 hi hz0 hz1 hz2 rfl (by decide) (.slice mA k mc) k (m.meants.map Br.v) (by rfl) HO2.out (V1.heap.size + 1 + 1) _ 1 [.slice (some ⟨V1.heap.size, 0, none⟩) 64 64] (by rfl) (Row.blk HN2.out rfl (by simp) (by simp [maxLen])) (by simp) (by intro v hv; simp at hv; subst hv; rfl) (by unfold maxLen; omega) (by omega) (by simp; omega) ?_
            intro v2 w2 h7 hg7 hv7
            have HG2 := Lib.hid (mI_grownM (x := ⟨.slice (some ⟨V1.heap.size, 0, none⟩) 64 64, zs⟩) HF2.out h7 (by show k + 1 = m.meants.length + 1; omega) hg7 hv7)
            have c72 := HG2.out.1.cell 1
            have f72 := HG2.out.1.free 1
            simp only [mdC, List.getElem?_cons_zero, List.getElem?_cons_succ] at c72
            obtain ⟨A72, c772, hv77, hy1, hy2⟩ := (Row.of_own h7).slice
            subst hv77
            clear h7 hg7 hv7 hy1 hy2
            refine hK.out _ _ (trivial) (fun HS => ?_)
            clear hK
            try simp only [Act.put, List.setIfInBounds_toArray, List.set_cons_zero, List.set_cons_succ]
            refine handTake 8 (some 38) ?_ rfl rfl (by kernel_rfl) (by kernel_rfl) (by kernel_rfl) (fun _ _ _ h => h) (by rfl) ?_ HS ?_
            rotate_left
            · (intro u hu; (try dsimp only at hu); go_simp; try with_reducible rfl)
            simp only [Act.put, List.setIfInBounds_toArray, List.set_cons_zero, List.set_cons_succ]
            refine handTake 9 (some 39) ?_ rfl rfl (by kernel_rfl) (by kernel_rfl) (by kernel_rfl) (fun _ _ _ h => h) (by rfl) ?_ HS ?_
            rotate_left
            · (intro u hu; (try dsimp only at hu); go_simp; try with_reducible rfl)
            simp only [Act.put, List.setIfInBounds_toArray, List.set_cons_zero, List.set_cons_succ]
            refine wpAnyH_ready (rs := [10]) (by kernel_rfl) (by simp) ?_
            refine AllReadyH.cons rfl (fun K hK => ?_) AllReadyH.nil
            clear HS
            go_simp
            refine hK.out _ _ (trivial) (fun HS => ?_)
            clear hK
            try simp only [Act.put, List.setIfInBounds_toArray, List.set_cons_zero, List.set_cons_succ]
            refine wpAnyH_done (by kernel_rfl) ?_ _
            clear HS
            clear c71 f71 c72 f72 cE1 cF1 cE2 cF2 cD cD2
            have HX := HG2.out.2
            have HO9 := mI_losts HX
            rw [hR3] at HO9
            have c9 := (mI_box HX).cell 2
            simp only [mdC, List.getElem?_cons_zero, List.getElem?_cons_succ] at c9
            have hz9 := HX.size
            obtain ⟨V9, hV9⟩ : ∃ V : World, V = w2.setCell ⟨g, 1, none⟩ (.slice A72 (k + 1) c772) := ⟨_, rfl⟩
            rw [← hV9] at HX HO9 c9 hz9 ⊢
            have HX := Lib.hid HX
            have HO9 := Lib.hid HO9
            have HF9 := Lib.hid (HX.out.fresh (.cells #[.bool false] 4))
            have HN9 : Hid (Whole (V9.alloc (.cells #[.bool false] 4)) V9.heap.size 4 [.bool false]) := Whole.new _ _ _
            have HO8 := mI_losts HF9.out
            rw [hR3] at HO8
            have HO8 := Lib.hid HO8
            have c8 := (mI_box HF9.out).cell 2
            simp only [mdC, List.getElem?_cons_zero, List.getElem?_cons_succ] at c8
            clear hV9
            go_wp2_with (at_builtin; refine wpList_append_foot _ rfl (.tmp 44) (.tmp 45) _ rfl w0.heap.size 4 j0 _ 1 1 Try.underlying23 hj hj0 hj1 hj2 rfl (by decide) (.slice lA k lc) k (bools m.losts) rfl HO8.out (V9.heap.size + 1) _ 1 [.bool false] rfl (Row.blk HN9.out rfl (by simp) (by simp [maxLen])) (by simp) (by intro v hv; simp at hv; subst hv; rfl) (by unfold maxLen; omega) (by omega) (by simp; omega) ?_; intro v3 w3 h7 hg7 hv7; have HG3 := Lib.hid (mI_grownL (x := false) HF9.out h7 (by show k + 1 = m.losts.length + 1; omega) hg7 hv7); have c73 := HG3.out.1.cell 2; have f73 := HG3.out.1.free 2; simp only [mdC, List.getElem?_cons_zero, List.getElem?_cons_succ] at c73; obtain ⟨A73, c773, hv77, hy1, hy2⟩ := (Row.of_own h7).slice; subst hv77; clear h7 hg7 hv7 hy1 hy2)
            go_roundw
            case rel => exact ⟨k + 1, _, _, _, _, by omega, by go_num, new_rel_next HRL.out _ _ rfl rfl, HG3.out.2⟩
            case measure => show N - ((k : Int) + 1).toNat < N - (k : Int).toNat; omega
          refine AllReadyH.cons rfl (fun K hK => ?_) ?_
          · clear HS
            refine step_made rfl _ _ (exec_makez rfl) ?_
            refine hK.out _ _ (trivial) (fun HS => ?_)
            clear hK
            try simp only [Act.put, List.setIfInBounds_toArray, List.set_cons_zero, List.set_cons_succ]
            refine wpAnyH_ready (rs := [4, 6]) (by kernel_rfl) (by simp) ?_
            refine AllReadyH.cons rfl (fun K hK => ?_) ?_
            · clear HS
              go_simp
              refine hK.out _ _ (trivial) (fun HS => ?_)
              clear hK
              try simp only [Act.put, List.setIfInBounds_toArray, List.set_cons_zero, List.set_cons_succ]
              refine wpAnyH_ready (rs := [6]) (by kernel_rfl) (by simp) ?_
              refine AllReadyH.cons rfl (fun K hK => ?_) AllReadyH.nil
              clear HS
              go_simp
              refine hK.out _ _ (trivial) (fun HS => ?_)
              clear hK
              try simp only [Act.put, List.setIfInBounds_toArray, List.set_cons_zero, List.set_cons_succ]
              refine wpAnyH_ready (rs := [7]) (by kernel_rfl) (by simp) ?_
              refine AllReadyH.cons rfl (fun K hK => ?_) AllReadyH.nil
              clear HS
              refine step_append_foot _ rfl (.tmp 34) (.tmp 36) _ (by rfl) w0.heap.size 22 i0 _ 1 24 Try.underlying64 hi hz0 hz1 hz2 rfl (by decide) (.slice mA k mc) k (m.meants.map Br.v) (by rfl) HO2.out (V1.heap.size + 1 + 1) _ 1 [.slice (some ⟨V1.heap.size, 0, none⟩) 64 64] (by rfl) (Row.blk HN2.out rfl (by simp) (by simp [maxLen])) (by simp) (by intro v hv; simp at hv; subst hv; rfl) (by unfold maxLen; omega) (by omega) (by simp; omega) ?_
              intro v2 w2 h7 hg7 hv7
              have HG2 := Lib.hid (mI_grownM (x := ⟨.slice (some ⟨V1.heap.size, 0, none⟩) 64 64, zs⟩) HF2.out h7 (by show k + 1 = m.meants.length + 1; omega) hg7 hv7)
              have c72 := HG2.out.1.cell 1
              have f72 := HG2.out.1.free 1
              simp only [mdC, List.getElem?_cons_zero, List.getElem?_cons_succ] at c72
              obtain ⟨A72, c772, hv77, hy1, hy2⟩ := (Row.of_own h7).slice
              subst hv77
              clear h7 hg7 hv7 hy1 hy2
              refine hK.out _ _ (trivial) (fun HS => ?_)
              clear hK
              try simp only [Act.put, List.setIfInBounds_toArray, List.set_cons_zero, List.set_cons_succ]
              refine handTake 8 (some 38) ?_ rfl rfl (by kernel_rfl) (by kernel_rfl) (by kernel_rfl) (fun _ _ _ h => h) (by rfl) ?_ HS ?_
              rotate_left
              · (intro u hu; (try dsimp only at hu); go_simp; try with_reducible rfl)
              simp only [Act.put, List.setIfInBounds_toArray, List.set_cons_zero, List.set_cons_succ]
              refine handTake 9 (some 39) ?_ rfl rfl (by kernel_rfl) (by kernel_rfl) (by kernel_rfl) (fun _ _ _ h => h) (by rfl) ?_ HS ?_
              rotate_left
              · (intro u hu; (try dsimp only at hu); go_simp; try with_reducible rfl)
              simp only [Act.put, List.setIfInBounds_toArray, List.set_cons_zero, List.set_cons_succ]
              refine wpAnyH_ready (rs := [10]) (by kernel_rfl) (by simp) ?_
              refine AllReadyH.cons rfl (fun K hK => ?_) AllReadyH.nil
              clear HS
              go_simp
              refine hK.out _ _ (trivial) (fun HS => ?_)
              clear hK
              try simp only [Act.put, List.setIfInBounds_toArray, List.set_cons_zero, List.set_cons_succ]
              refine wpAnyH_done (by kernel_rfl) ?_ _
              clear HS
              clear c71 f71 c72 f72 cE1 cF1 cE2 cF2 cD cD2
              have HX := HG2.out.2
              have HO9 := mI_losts HX
              rw [hR3] at HO9
              have c9 := (mI_box HX).cell 2
              simp only [mdC, List.getElem?_cons_zero, List.getElem?_cons_succ] at c9
              have hz9 := HX.size
              obtain ⟨V9, hV9⟩ : ∃ V : World, V = w2.setCell ⟨g, 1, none⟩ (.slice A72 (k + 1) c772) := ⟨_, rfl⟩
              rw [← hV9] at HX HO9 c9 hz9 ⊢
              have HX := Lib.hid HX
              have HO9 := Lib.hid HO9
              have HF9 := Lib.hid (HX.out.fresh (.cells #[.bool false] 4))
              have HN9 : Hid (Whole (V9.alloc (.cells #[.bool false] 4)) V9.heap.size 4 [.bool false]) := Whole.new _ _ _
              have HO8 := mI_losts HF9.out
              rw [hR3] at HO8
              have HO8 := Lib.hid HO8
              have c8 := (mI_box HF9.out).cell 2
              simp only [mdC, List.getElem?_cons_zero, List.getElem?_cons_succ] at c8
              clear hV9
              go_wp2_with (at_builtin; refine wpList_append_foot _ rfl (.tmp 44) (.tmp 45) _ rfl w0.heap.size 4 j0 _ 1 1 Try.underlying23 hj hj0 hj1 hj2 rfl (by decide) (.slice lA k lc) k (bools m.losts) rfl HO8.out (V9.heap.size + 1) _ 1 [.bool false] rfl (Row.blk HN9.out rfl (by simp) (by simp [maxLen])) (by simp) (by intro v hv; simp at hv; subst hv; rfl) (by unfold maxLen; omega) (by omega) (by simp; omega) ?_; intro v3 w3 h7 hg7 hv7; have HG3 := Lib.hid (mI_grownL (x := false) HF9.out h7 (by show k + 1 = m.losts.length + 1; omega) hg7 hv7); have c73 := HG3.out.1.cell 2; have f73 := HG3.out.1.free 2; simp only [mdC, List.getElem?_cons_zero, List.getElem?_cons_succ] at c73; obtain ⟨A73, c773, hv77, hy1, hy2⟩ := (Row.of_own h7).slice; subst hv77; clear h7 hg7 hv7 hy1 hy2)
              go_roundw
              case rel => exact ⟨k + 1, _, _, _, _, by omega, by go_num, new_rel_next HRL.out _ _ rfl rfl, HG3.out.2⟩
              case measure => show N - ((k : Int) + 1).toNat < N - (k : Int).toNat; omega
            refine AllReadyH.cons rfl (fun K hK => ?_) ?_
            · clear HS
              go_simp
              refine hK.out _ _ (trivial) (fun HS => ?_)
              clear hK
              try simp only [Act.put, List.setIfInBounds_toArray, List.set_cons_zero, List.set_cons_succ]
              refine wpAnyH_ready (rs := [4]) (by kernel_rfl) (by simp) ?_
              refine AllReadyH.cons rfl (fun K hK => ?_) AllReadyH.nil
              clear HS
              go_simp
              refine hK.out _ _ (trivial) (fun HS => ?_)
              clear hK
              try simp only [Act.put, List.setIfInBounds_toArray, List.set_cons_zero, List.set_cons_succ]
              refine wpAnyH_ready (rs := [7]) (by kernel_rfl) (by simp) ?_
              refine AllReadyH.cons rfl (fun K hK => ?_) AllReadyH.nil
              clear HS
              refine step_append_foot _ rfl (.tmp 34) (.tmp 36) _ (by rfl) w0.heap.size 22 i0 _ 1 24 Try.underlying64 hi hz0 hz1 hz2 rfl (by decide) (.slice mA k mc) k (m.meants.map Br.v) (by rfl) HO2.out (V1.heap.size + 1 + 1) _ 1 [.slice (some ⟨V1.heap.size, 0, none⟩) 64 64] (by rfl) (Row.blk HN2.out rfl (by simp) (by simp [maxLen])) (by simp) (by intro v hv; simp at hv; subst hv; rfl) (by unfold maxLen; omega) (by omega) (by simp; omega) ?_
              intro v2 w2 h7 hg7 hv7
              have HG2 := Lib.hid (mI_grownM (x := ⟨.slice (some ⟨V1.heap.size, 0, none⟩) 64 64, zs⟩) HF2.out h7 (by show k + 1 = m.meants.length + 1; omega) hg7 hv7)
              have c72 := HG2.out.1.cell 1
              have f72 := HG2.out.1.free 1
              simp only [mdC, List.getElem?_cons_zero, List.getElem?_cons_succ] at c72
              obtain ⟨A72, c772, hv77, hy1, hy2⟩ := (Row.of_own h7).slice
              subst hv77
              clear h7 hg7 hv7 hy1 hy2
              refine hK.out _ _ (trivial) (fun HS => ?_)
              clear hK
              try simp only [Act.put, List.setIfInBounds_toArray, List.set_cons_zero, List.set_cons_succ]
              refine handTake 8 (some 38) ?_ rfl rfl (by kernel_rfl) (by kernel_rfl) (by kernel_rfl) (fun _ _ _ h => h) (by rfl) ?_ HS ?_
              rotate_left
              · (intro u hu; (try dsimp only at hu); go_simp; try with_reducible rfl)
              simp only [Act.put, List.setIfInBounds_toArray, List.set_cons_zero, List.set_cons_succ]
              refine handTake 9 (some 39) ?_ rfl rfl (by kernel_rfl) (by kernel_rfl) (by kernel_rfl) (fun _ _ _ h => h) (by rfl) ?_ HS ?_
              rotate_left
              · (intro u hu; (try dsimp only at hu); go_simp; try with_reducible rfl)
              simp only [Act.put, List.setIfInBounds_toArray, List.set_cons_zero, List.set_cons_succ]
              refine wpAnyH_ready (rs := [10]) (by kernel_rfl) (by simp) ?_
              refine AllReadyH.cons rfl (fun K hK => ?_) AllReadyH.nil
              clear HS
              go_simp
              refine hK.out _ _ (trivial) (fun HS => ?_)
              clear hK
              try simp only [Act.put, List.setIfInBounds_toArray, List.set_cons_zero, List.set_cons_succ]
              refine wpAnyH_done (by kernel_rfl) ?_ _
              clear HS
              clear c71 f71 c72 f72 cE1 cF1 cE2 cF2 cD cD2
              have HX := HG2.out.2
              have HO9 := mI_losts HX
              rw [hR3] at HO9
              have c9 := (mI_box HX).cell 2
              simp only [mdC, List.getElem?_cons_zero, List.getElem?_cons_succ] at c9
              have hz9 := HX.size
              obtain ⟨V9, hV9⟩ : ∃ V : World, V = w2.setCell ⟨g, 1, none⟩ (.slice A72 (k + 1) c772) := ⟨_, rfl⟩
              rw [← hV9] at HX HO9 c9 hz9 ⊢
              have HX := Lib.hid HX
              have HO9 := Lib.hid HO9
              have HF9 := Lib.hid (HX.out.fresh (.cells #[.bool false] 4))
              have HN9 : Hid (Whole (V9.alloc (.cells #[.bool false] 4)) V9.heap.size 4 [.bool false]) := Whole.new _ _ _
              have HO8 := mI_losts HF9.out
              rw [hR3] at HO8
              have HO8 := Lib.hid HO8
              have c8 := (mI_box HF9.out).cell 2
              simp only [mdC, List.getElem?_cons_zero, List.getElem?_cons_succ] at c8
              clear hV9
              go_wp2_with (at_builtin; refine wpList_append_foot _ rfl (.tmp 44) (.tmp 45) _ rfl w0.heap.size 4 j0 _ 1 1 Try.underlying23 hj hj0 hj1 hj2 rfl (by decide) (.slice lA k lc) k (bools m.losts) rfl HO8.out (V9.heap.size + 1) _ 1 [.bool false] rfl (Row.blk HN9.out rfl (by simp) (by simp [maxLen])) (by simp) (by intro v hv; simp at hv; subst hv; rfl) (by unfold maxLen; omega) (by omega) (by simp; omega) ?_; intro v3 w3 h7 hg7 hv7; have HG3 := Lib.hid (mI_grownL (x := false) HF9.out h7 (by show k + 1 = m.losts.length + 1; omega) hg7 hv7); have c73 := HG3.out.1.cell 2; have f73 := HG3.out.1.free 2; simp only [mdC, List.getElem?_cons_zero, List.getElem?_cons_succ] at c73; obtain ⟨A73, c773, hv77, hy1, hy2⟩ := (Row.of_own h7).slice; subst hv77; clear h7 hg7 hv7 hy1 hy2)
              go_roundw
              case rel => exact ⟨k + 1, _, _, _, _, by omega, by go_num, new_rel_next HRL.out _ _ rfl rfl, HG3.out.2⟩
              case measure => show N - ((k : Int) + 1).toNat < N - (k : Int).toNat; omega
            exact AllReadyH.nil
          exact AllReadyH.nil
        refine AllReadyH.cons rfl (fun K hK => ?_) ?_
        · clear HS
          go_simp
          refine hK.out _ _ (trivial) (fun HS => ?_)
          clear hK
          try simp only [Act.put, List.setIfInBounds_toArray, List.set_cons_zero, List.set_cons_succ]
          refine wpAnyH_ready (rs := [4]) (by kernel_rfl) (by simp) ?_
          refine AllReadyH.cons rfl (fun K hK => ?_) AllReadyH.nil
          clear HS
          go_simp
          refine hK.out _ _ (trivial) (fun HS => ?_)
          clear hK
          try simp only [Act.put, List.setIfInBounds_toArray, List.set_cons_zero, List.set_cons_succ]
          refine wpAnyH_ready (rs := [7]) (by kernel_rfl) (by simp) ?_
          refine AllReadyH.cons rfl (fun K hK => ?_) AllReadyH.nil
          clear HS
          refine step_append_foot _ rfl (.tmp 24) (.tmp 26) _ (by rfl) w0.heap.size 22 i0 _ 1 24 Try.underlying64 hi hz0 hz1 hz2 rfl (by decide) (.slice sA k sc) k (m.rests.map Br.v) (by rfl) HO1.out (V0.heap.size + 1 + 1) _ 1 [.slice (some ⟨V0.heap.size, 0, none⟩) 64 64] (by rfl) (Row.blk HN1.out rfl (by simp) (by simp [maxLen])) (by simp) (by intro v hv; simp at hv; subst hv; rfl) (by unfold maxLen; omega) (by omega) (by simp; omega) ?_
          intro v1 w1 h7 hg7 hv7
          have HG1 := Lib.hid (mI_grownR (x := ⟨.slice (some ⟨V0.heap.size, 0, none⟩) 64 64, zs⟩) HF1.out h7 (by rw [hR1]) hg7 hv7)
          have c71 := HG1.out.1.cell 0
          have f71 := HG1.out.1.free 0
          simp only [mdC, List.getElem?_cons_zero, List.getElem?_cons_succ] at c71
          obtain ⟨A71, c771, hv77, hy1, hy2⟩ := (Row.of_own h7).slice
          subst hv77
          clear h7 hg7 hv7 hy1 hy2
          refine hK.out _ _ (trivial) (fun HS => ?_)
          clear hK
          try simp only [Act.put, List.setIfInBounds_toArray, List.set_cons_zero, List.set_cons_succ]
          refine handTake 8 (some 28) ?_ rfl rfl (by kernel_rfl) (by kernel_rfl) (by kernel_rfl) (fun _ _ _ h => h) (by rfl) ?_ HS ?_
          rotate_left
          · (intro u hu; (try dsimp only at hu); go_simp; try with_reducible rfl)
          simp only [Act.put, List.setIfInBounds_toArray, List.set_cons_zero, List.set_cons_succ]
          refine handTake 9 (some 29) ?_ rfl rfl (by kernel_rfl) (by kernel_rfl) (by kernel_rfl) (fun _ _ _ h => h) (by rfl) ?_ HS ?_
          rotate_left
          · (intro u hu; (try dsimp only at hu); go_simp; try with_reducible rfl)
          simp only [Act.put, List.setIfInBounds_toArray, List.set_cons_zero, List.set_cons_succ]
          refine wpAnyH_ready (rs := [10]) (by kernel_rfl) (by simp) ?_
          refine AllReadyH.cons rfl (fun K hK => ?_) AllReadyH.nil
          clear HS
          go_simp
          refine hK.out _ _ (trivial) (fun HS => ?_)
          clear hK
          try simp only [Act.put, List.setIfInBounds_toArray, List.set_cons_zero, List.set_cons_succ]
          refine wpAnyH_done (by kernel_rfl) ?_ _
          clear HS
          have HX := HG1.out.2
          obtain ⟨U1, hU1⟩ : ∃ V : World, V = w1.setCell ⟨g, 0, none⟩ (.slice A71 (k + 1) c771) := ⟨_, rfl⟩
          rw [← hU1] at HX ⊢
          clear hU1
          have HD2 := Lib.hid HX.drew
          clear HX
          go_wp2_with fail
          obtain ⟨V1, hV1⟩ : ∃ V : World, V = U1.drew := ⟨_, rfl⟩
          rw [← hV1] at HD2
          have cD2 := (mI_box HD2.out).cell 1
          simp only [mdC, List.getElem?_cons_zero, List.getElem?_cons_succ] at cD2
          have HE2 := Lib.hid (Sep.made HD2.out)
          have HF2 := Lib.hid (HE2.out.fresh (.cells #[.slice (some ⟨V1.heap.size, 0, none⟩) 64 64] 22))
          have HN2 : Hid (Whole ((V1.alloc (.cells (u8s zs).toArray 5)).alloc (.cells #[.slice (some ⟨V1.heap.size, 0, none⟩) 64 64] 22)) (V1.heap.size + 1) 22 [.slice (some ⟨V1.heap.size, 0, none⟩) 64 64]) := by
            have := Whole.new (V1.alloc (.cells (u8s zs).toArray 5)) 22 [.slice (some ⟨V1.heap.size, 0, none⟩) 64 64]
            rw [show (V1.alloc (.cells (u8s zs).toArray 5)).heap.size = V1.heap.size + 1 from by simp] at this
            exact this
          have HO2 := mI_meants HF2.out
          rw [hR2] at HO2
          have HO2 := Lib.hid HO2
          have hzz2 := HD2.out.size
          have cE2 := (mI_box HE2.out).cell 1
          have cF2 := (mI_box HF2.out).cell 1
          simp only [mdC, List.getElem?_cons_zero, List.getElem?_cons_succ] at cE2 cF2
          refine wp_region_held_drew (S := (fun _ : World => True)) (by kernel_rfl) (trivial) (fun HS => ?_)
          rw [← hV1]
          clear hV1
          refine handTake 0 (some 30) ?_ rfl rfl (by kernel_rfl) (by kernel_rfl) (by kernel_rfl) (fun _ _ _ h => h) (by rfl) ?_ HS ?_
          rotate_left
          · (intro u hu; (try dsimp only at hu); go_simp; try with_reducible rfl)
          simp only [Act.put, List.setIfInBounds_toArray, List.set_cons_zero, List.set_cons_succ]
          refine handTake 1 (some 31) ?_ rfl rfl (by kernel_rfl) (by kernel_rfl) (by kernel_rfl) (fun _ _ _ h => h) (by rfl) ?_ HS ?_
          rotate_left
          · (intro u hu; (try dsimp only at hu); go_simp; try with_reducible rfl)
          simp only [Act.put, List.setIfInBounds_toArray, List.set_cons_zero, List.set_cons_succ]
          refine handTake 2 (some 32) ?_ rfl rfl (by kernel_rfl) (by kernel_rfl) (by kernel_rfl) (fun _ _ _ h => h) (by rfl) ?_ HS ?_
          rotate_left
          · (intro u hu; (try dsimp only at hu); go_simp; try with_reducible rfl)
          simp only [Act.put, List.setIfInBounds_toArray, List.set_cons_zero, List.set_cons_succ]
          refine handTake 3 (some 33) ?_ rfl rfl (by kernel_rfl) (by kernel_rfl) (by kernel_rfl) (fun _ _ _ h => h) (by rfl) ?_ HS ?_
          rotate_left
          · (intro u hu; (try dsimp only at hu); go_simp; try with_reducible rfl)
          simp only [Act.put, List.setIfInBounds_toArray, List.set_cons_zero, List.set_cons_succ]
          refine wpAnyH_ready (rs := [4, 5]) (by kernel_rfl) (by simp) ?_
          refine AllReadyH.cons rfl (fun K hK => ?_) ?_
          · clear HS
            go_simp
            refine hK.out _ _ (trivial) (fun HS => ?_)
            clear hK
            try simp only [Act.put, List.setIfInBounds_toArray, List.set_cons_zero, List.set_cons_succ]
            refine wpAnyH_ready (rs := [5]) (by kernel_rfl) (by simp) ?_
            refine AllReadyH.cons rfl (fun K hK => ?_) AllReadyH.nil
            clear HS
            refine step_made rfl _ _ (exec_makez rfl) ?_
            refine hK.out _ _ (trivial) (fun HS => ?_)
            clear hK
            try simp only [Act.put, List.setIfInBounds_toArray, List.set_cons_zero, List.set_cons_succ]
            refine wpAnyH_ready (rs := [6]) (by kernel_rfl) (by simp) ?_
            refine AllReadyH.cons rfl (fun K hK => ?_) AllReadyH.nil
            clear HS
            go_simp
            refine hK.out _ _ (trivial) (fun HS => ?_)
            clear hK
            try simp only [Act.put, List.setIfInBounds_toArray, List.set_cons_zero, List.set_cons_succ]
            refine wpAnyH_ready (rs := [7]) (by kernel_rfl) (by simp) ?_
            refine AllReadyH.cons rfl (fun K hK => ?_) AllReadyH.nil
            clear HS
            refine step_append_foot _ rfl (.tmp 34) (.tmp 36) _ (by rfl) w0.heap.size 22 i0 _ 1 24 Try.underlying64 hi hz0 hz1 hz2 rfl (by decide) (.slice mA k mc) k (m.meants.map Br.v) (by rfl) HO2.out (V1.heap.size + 1 + 1) _ 1 [.slice (some ⟨V1.heap.size, 0, none⟩) 64 64] (by rfl) (Row.blk HN2.out rfl (by simp) (by simp [maxLen])) (by simp) (by intro v hv; simp at hv; subst hv; rfl) (by unfold maxLen; omega) (by omega) (by simp; omega) ?_
            intro v2 w2 h7 hg7 hv7
            have HG2 := Lib.hid (mI_grownM (x := ⟨.slice (some ⟨V1.heap.size, 0, none⟩) 64 64, zs⟩) HF2.out h7 (by show k + 1 = m.meants.length + 1; omega) hg7 hv7)
            have c72 := HG2.out.1.cell 1
            have f72 := HG2.out.1.free 1
            simp only [mdC, List.getElem?_cons_zero, List.getElem?_cons_succ] at c72
            obtain ⟨A72, c772, hv77, hy1, hy2⟩ := (Row.of_own h7).slice
            subst hv77
            clear h7 hg7 hv7 hy1 hy2
            refine hK.out _ _ (trivial) (fun HS => ?_)
            clear hK
            try simp only [Act.put, List.setIfInBounds_toArray, List.set_cons_zero, List.set_cons_succ]
            refine handTake 8 (some 38) ?_ rfl rfl (by kernel_rfl) (by kernel_rfl) (by kernel_rfl) (fun _ _ _ h => h) (by rfl) ?_ HS ?_
            rotate_left
            · (intro u hu; (try dsimp only at hu); go_simp; try with_reducible rfl)
            simp only [Act.put, List.setIfInBounds_toArray, List.set_cons_zero, List.set_cons_succ]
            refine handTake 9 (some 39) ?_ rfl rfl (by kernel_rfl) (by kernel_rfl) (by kernel_rfl) (fun _ _ _ h => h) (by rfl) ?_ HS ?_
            rotate_left
            · (intro u hu; (try dsimp only at hu); go_simp; try with_reducible rfl)
            simp only [Act.put, List.setIfInBounds_toArray, List.set_cons_zero, List.set_cons_succ]
            refine wpAnyH_ready (rs := [10]) (by kernel_rfl) (by simp) ?_
            refine AllReadyH.cons rfl (fun K hK => ?_) AllReadyH.nil
            clear HS
            go_simp
            refine hK.out _ _ (trivial) (fun HS => ?_)
            clear hK
            try simp only [Act.put, List.setIfInBounds_toArray, List.set_cons_zero, List.set_cons_succ]
            refine wpAnyH_done (by kernel_rfl) ?_ _
            clear HS
            clear c71 f71 c72 f72 cE1 cF1 cE2 cF2 cD cD2
            have HX := HG2.out.2
            have HO9 := mI_losts HX
            rw [hR3] at HO9
            have c9 := (mI_box HX).cell 2
            simp only [mdC, List.getElem?_cons_zero, List.getElem?_cons_succ] at c9
            have hz9 := HX.size
            obtain ⟨V9, hV9⟩ : ∃ V : World, V = w2.setCell ⟨g, 1, none⟩ (.slice A72 (k + 1) c772) := ⟨_, rfl⟩
            rw [← hV9] at HX HO9 c9 hz9 ⊢
            have HX := Lib.hid HX
            have HO9 := Lib.hid HO9
            have HF9 := Lib.hid (HX.out.fresh (.cells #[.bool false] 4))
            have HN9 : Hid (Whole (V9.alloc (.cells #[.bool false] 4)) V9.heap.size 4 [.bool false]) := Whole.new _ _ _
            have HO8 := mI_losts HF9.out
            rw [hR3] at HO8
            have HO8 := Lib.hid HO8
            have c8 := (mI_box HF9.out).cell 2
            simp only [mdC, List.getElem?_cons_zero, List.getElem?_cons_succ] at c8
            clear hV9
            go_wp2_with (at_builtin; refine wpList_append_foot _ rfl (.tmp 44) (.tmp 45) _ rfl w0.heap.size 4 j0 _ 1 1 Try.underlying23 hj hj0 hj1 hj2 rfl (by decide) (.slice lA k lc) k (bools m.losts) rfl HO8.out (V9.heap.size + 1) _ 1 [.bool false] rfl (Row.blk HN9.out rfl (by simp) (by simp [maxLen])) (by simp) (by intro v hv; simp at hv; subst hv; rfl) (by unfold maxLen; omega) (by omega) (by simp; omega) ?_; intro v3 w3 h7 hg7 hv7; have HG3 := Lib.hid (mI_grownL (x := false) HF9.out h7 (by show k + 1 = m.losts.length + 1; omega) hg7 hv7); have c73 := HG3.out.1.cell 2; have f73 := HG3.out.1.free 2; simp only [mdC, List.getElem?_cons_zero, List.getElem?_cons_succ] at c73; obtain ⟨A73, c773, hv77, hy1, hy2⟩ := (Row.of_own h7).slice; subst hv77; clear h7 hg7 hv7 hy1 hy2)
            go_roundw
            case rel => exact ⟨k + 1, _, _, _, _, by omega, by go_num, new_rel_next HRL.out _ _ rfl rfl, HG3.out.2⟩
            case measure => show N - ((k : Int) + 1).toNat < N - (k : Int).toNat; omega
          refine AllReadyH.cons rfl (fun K hK => ?_) ?_
          · clear HS
            refine step_made rfl _ _ (exec_makez rfl) ?_
            refine hK.out _ _ (trivial) (fun HS => ?_)
            clear hK
            try simp only [Act.put, List.setIfInBounds_toArray, List.set_cons_zero, List.set_cons_succ]
            refine wpAnyH_ready (rs := [4, 6]) (by kernel_rfl) (by simp) ?_
            refine AllReadyH.cons rfl (fun K hK => ?_) ?_
            · clear HS
              go_simp
              refine hK.out _ _ (trivial) (fun HS => ?_)
              clear hK
              try simp only [Act.put, List.setIfInBounds_toArray, List.set_cons_zero, List.set_cons_succ]
              refine wpAnyH_ready (rs := [6]) (by kernel_rfl) (by simp) ?_
              refine AllReadyH.cons rfl (fun K hK => ?_) AllReadyH.nil
              clear HS
              go_simp
              refine hK.out _ _ (trivial) (fun HS => ?_)
              clear hK
              try simp only [Act.put, List.setIfInBounds_toArray, List.set_cons_zero, List.set_cons_succ]
              refine wpAnyH_ready (rs := [7]) (by kernel_rfl) (by simp) ?_
              refine AllReadyH.cons rfl (fun K hK => ?_) AllReadyH.nil
              clear HS
              refine step_append_foot _ rfl (.tmp 34) (.tmp 36) _ (by rfl) w0.heap.size 22 i0 _ 1 24 Try.underlying64 hi hz0 hz1 hz2 rfl (by decide) (.slice mA k mc) k (m.meants.map Br.v) (by rfl) HO2.out (V1.heap.size + 1 + 1) _ 1 [.slice (some ⟨V1.heap.size, 0, none⟩) 64 64] (by rfl) (Row.blk HN2.out rfl (by simp) (by simp [maxLen])) (by simp) (by intro v hv; simp at hv; subst hv; rfl) (by unfold maxLen; omega) (by omega) (by simp; omega) ?_
              intro v2 w2 h7 hg7 hv7
              have HG2 := Lib.hid (mI_grownM (x := ⟨.slice (some ⟨V1.heap.size, 0, none⟩) 64 64, zs⟩) HF2.out h7 (by show k + 1 = m.meants.length + 1; omega) hg7 hv7)
              have c72 := HG2.out.1.cell 1
              have f72 := HG2.out.1.free 1
              simp only [mdC, List.getElem?_cons_zero, List.getElem?_cons_succ] at c72
              obtain ⟨A72, c772, hv77, hy1, hy2⟩ := (Row.of_own h7).slice
              subst hv77
              clear h7 hg7 hv7 hy1 hy2
              refine hK.out _ _ (trivial) (fun HS => ?_)
              clear hK
              try simp only [Act.put, List.setIfInBounds_toArray, List.set_cons_zero, List.set_cons_succ]
              refine handTake 8 (some 38) ?_ rfl rfl (by kernel_rfl) (by kernel_rfl) (by kernel_rfl) (fun _ _ _ h => h) (by rfl) ?_ HS ?_
              rotate_left
              · (intro u hu; (try dsimp only at hu); go_simp; try with_reducible rfl)
              simp only [Act.put, List.setIfInBounds_toArray, List.set_cons_zero, List.set_cons_succ]
              refine handTake 9 (some 39) ?_ rfl rfl (by kernel_rfl) (by kernel_rfl) (by kernel_rfl) (fun _ _ _ h => h) (by rfl) ?_ HS ?_
              rotate_left
              · (intro u hu; (try dsimp only at hu); go_simp; try with_reducible rfl)
              simp only [Act.put, List.setIfInBounds_toArray, List.set_cons_zero, List.set_cons_succ]
              refine wpAnyH_ready (rs := [10]) (by kernel_rfl) (by simp) ?_
              refine AllReadyH.cons rfl (fun K hK => ?_) AllReadyH.nil
              clear HS
              go_simp
              refine hK.out _ _ (trivial) (fun HS => ?_)
              clear hK
              try simp only [Act.put, List.setIfInBounds_toArray, List.set_cons_zero, List.set_cons_succ]
              refine wpAnyH_done (by kernel_rfl) ?_ _
              clear HS
              clear c71 f71 c72 f72 cE1 cF1 cE2 cF2 cD cD2
              have HX := HG2.out.2
              have HO9 := mI_losts HX
              rw [hR3] at HO9
              have c9 := (mI_box HX).cell 2
              simp only [mdC, List.getElem?_cons_zero, List.getElem?_cons_succ] at c9
              have hz9 := HX.size
              obtain ⟨V9, hV9⟩ : ∃ V : World, V = w2.setCell ⟨g, 1, none⟩ (.slice A72 (k + 1) c772) := ⟨_, rfl⟩
              rw [← hV9] at HX HO9 c9 hz9 ⊢
              have HX := Lib.hid HX
              have HO9 := Lib.hid HO9
              have HF9 := Lib.hid (HX.out.fresh (.cells #[.bool false] 4))
              have HN9 : Hid (Whole (V9.alloc (.cells #[.bool false] 4)) V9.heap.size 4 [.bool false]) := Whole.new _ _ _
              have HO8 := mI_losts HF9.out
              rw [hR3] at HO8
              have HO8 := Lib.hid HO8
              have c8 := (mI_box HF9.out).cell 2
              simp only [mdC, List.getElem?_cons_zero, List.getElem?_cons_succ] at c8
              clear hV9
              go_wp2_with (at_builtin; refine wpList_append_foot _ rfl (.tmp 44) (.tmp 45) _ rfl w0.heap.size 4 j0 _ 1 1 Try.underlying23 hj hj0 hj1 hj2 rfl (by decide) (.slice lA k lc) k (bools m.losts) rfl HO8.out (V9.heap.size + 1) _ 1 [.bool false] rfl (Row.blk HN9.out rfl (by simp) (by simp [maxLen])) (by simp) (by intro v hv; simp at hv; subst hv; rfl) (by unfold maxLen; omega) (by omega) (by simp; omega) ?_; intro v3 w3 h7 hg7 hv7; have HG3 := Lib.hid (mI_grownL (x := false) HF9.out h7 (by show k + 1 = m.losts.length + 1; omega) hg7 hv7); have c73 := HG3.out.1.cell 2; have f73 := HG3.out.1.free 2; simp only [mdC, List.getElem?_cons_zero, List.getElem?_cons_succ] at c73; obtain ⟨A73, c773, hv77, hy1, hy2⟩ := (Row.of_own h7).slice; subst hv77; clear h7 hg7 hv7 hy1 hy2)
              go_roundw
              case rel => exact ⟨k + 1, _, _, _, _, by omega, by go_num, new_rel_next HRL.out _ _ rfl rfl, HG3.out.2⟩
              case measure => show N - ((k : Int) + 1).toNat < N - (k : Int).toNat; omega
            refine AllReadyH.cons rfl (fun K hK => ?_) ?_
            · clear HS
              go_simp
              refine hK.out _ _ (trivial) (fun HS => ?_)
              clear hK
              try simp only [Act.put, List.setIfInBounds_toArray, List.set_cons_zero, List.set_cons_succ]
              refine wpAnyH_ready (rs := [4]) (by kernel_rfl) (by simp) ?_
              refine AllReadyH.cons rfl (fun K hK => ?_) AllReadyH.nil
              clear HS
              go_simp
              refine hK.out _ _ (trivial) (fun HS => ?_)
              clear hK
              try simp only [Act.put, List.setIfInBounds_toArray, List.set_cons_zero, List.set_cons_succ]
              refine wpAnyH_ready (rs := [7]) (by kernel_rfl) (by simp) ?_
              refine AllReadyH.cons rfl (fun K hK => ?_) AllReadyH.nil
              clear HS
              refine step_append_foot _ rfl (.tmp 34) (.tmp 36) _ (by rfl) w0.heap.size 22 i0 _ 1 24 Try.underlying64 hi hz0 hz1 hz2 rfl (by decide) (.slice mA k mc) k (m.meants.map Br.v) (by rfl) HO2.out (V1.heap.size + 1 + 1) _ 1 [.slice (some ⟨V1.heap.size, 0, none⟩) 64 64] (by rfl) (Row.blk HN2.out rfl (by simp) (by simp [maxLen])) (by simp) (by intro v hv; simp at hv; subst hv; rfl) (by unfold maxLen; omega) (by omega) (by simp; omega) ?_
              intro v2 w2 h7 hg7 hv7
              have HG2 := Lib.hid (mI_grownM (x := ⟨.slice (some ⟨V1.heap.size, 0, none⟩) 64 64, zs⟩) HF2.out h7 (by show k + 1 = m.meants.length + 1; omega) hg7 hv7)
              have c72 := HG2.out.1.cell 1
              have f72 := HG2.out.1.free 1
              simp only [mdC, List.getElem?_cons_zero, List.getElem?_cons_succ] at c72
              obtain ⟨A72, c772, hv77, hy1, hy2⟩ := (Row.of_own h7).slice
              subst hv77
              clear h7 hg7 hv7 hy1 hy2
              refine hK.out _ _ (trivial) (fun HS => ?_)
              clear hK
              try simp only [Act.put, List.setIfInBounds_toArray, List.set_cons_zero, List.set_cons_succ]
              refine handTake 8 (some 38) ?_ rfl rfl (by kernel_rfl) (by kernel_rfl) (by kernel_rfl) (fun _ _ _ h => h) (by rfl) ?_ HS ?_
              rotate_left
              · (intro u hu; (try dsimp only at hu); go_simp; try with_reducible rfl)
              simp only [Act.put, List.setIfInBounds_toArray, List.set_cons_zero, List.set_cons_succ]
              refine handTake 9 (some 39) ?_ rfl rfl (by kernel_rfl) (by kernel_rfl) (by kernel_rfl) (fun _ _ _ h => h) (by rfl) ?_ HS ?_
              rotate_left
              · (intro u hu; (try dsimp only at hu); go_simp; try with_reducible rfl)
              simp only [Act.put, List.setIfInBounds_toArray, List.set_cons_zero, List.set_cons_succ]
              refine wpAnyH_ready (rs := [10]) (by kernel_rfl) (by simp) ?_
              refine AllReadyH.cons rfl (fun K hK => ?_) AllReadyH.nil
              clear HS
              go_simp
              refine hK.out _ _ (trivial) (fun HS => ?_)
              clear hK
              try simp only [Act.put, List.setIfInBounds_toArray, List.set_cons_zero, List.set_cons_succ]
              refine wpAnyH_done (by kernel_rfl) ?_ _
              clear HS
              clear c71 f71 c72 f72 cE1 cF1 cE2 cF2 cD cD2
              have HX := HG2.out.2
              have HO9 := mI_losts HX
              rw [hR3] at HO9
              have c9 := (mI_box HX).cell 2
              simp only [mdC, List.getElem?_cons_zero, List.getElem?_cons_succ] at c9
              have hz9 := HX.size
              obtain ⟨V9, hV9⟩ : ∃ V : World, V = w2.setCell ⟨g, 1, none⟩ (.slice A72 (k + 1) c772) := ⟨_, rfl⟩
              rw [← hV9] at HX HO9 c9 hz9 ⊢
              have HX := Lib.hid HX
              have HO9 := Lib.hid HO9
              have HF9 := Lib.hid (HX.out.fresh (.cells #[.bool false] 4))
              have HN9 : Hid (Whole (V9.alloc (.cells #[.bool false] 4)) V9.heap.size 4 [.bool false]) := Whole.new _ _ _
              have HO8 := mI_losts HF9.out
              rw [hR3] at HO8
              have HO8 := Lib.hid HO8
              have c8 := (mI_box HF9.out).cell 2
              simp only [mdC, List.getElem?_cons_zero, List.getElem?_cons_succ] at c8
              clear hV9
              go_wp2_with (at_builtin; refine wpList_append_foot _ rfl (.tmp 44) (.tmp 45) _ rfl w0.heap.size 4 j0 _ 1 1 Try.underlying23 hj hj0 hj1 hj2 rfl (by decide) (.slice lA k lc) k (bools m.losts) rfl HO8.out (V9.heap.size + 1) _ 1 [.bool false] rfl (Row.blk HN9.out rfl (by simp) (by simp [maxLen])) (by simp) (by intro v hv; simp at hv; subst hv; rfl) (by unfold maxLen; omega) (by omega) (by simp; omega) ?_; intro v3 w3 h7 hg7 hv7; have HG3 := Lib.hid (mI_grownL (x := false) HF9.out h7 (by show k + 1 = m.losts.length + 1; omega) hg7 hv7); have c73 := HG3.out.1.cell 2; have f73 := HG3.out.1.free 2; simp only [mdC, List.getElem?_cons_zero, List.getElem?_cons_succ] at c73; obtain ⟨A73, c773, hv77, hy1, hy2⟩ := (Row.of_own h7).slice; subst hv77; clear h7 hg7 hv7 hy1 hy2)
              go_roundw
              case rel => exact ⟨k + 1, _, _, _, _, by omega, by go_num, new_rel_next HRL.out _ _ rfl rfl, HG3.out.2⟩
              case measure => show N - ((k : Int) + 1).toNat < N - (k : Int).toNat; omega
            exact AllReadyH.nil
          exact AllReadyH.nil
        exact AllReadyH.nil
      exact AllReadyH.nil
    · have hkN : k = N := by omega
      subst hkN
      clear hs hrel' hlt
      go_wp2_with fail
      go_ret2
      exact ⟨g, sv, mv, lv, m, rfl, by show Rel m (new ((k : Int).toNat)); rw [Int.toNat_natCast]; exact HRL.out, HS1.out⟩
end Di
end Go.Proofs.Ytnjejffbcgchlaa
