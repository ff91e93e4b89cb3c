/- The document's disk: Write. -/
import Derived.Test.YtnjejffbcgchlaaDiskRef6
import Derived.Deep.RegionHeld3
set_option linter.unusedSimpArgs false
set_option linter.unusedVariables false
namespace Go.Proofs.Ytnjejffbcgchlaa
open Go.RowKit
namespace Di
theorem mI_grownW {w0 u u' : World} {g : Nat} {sv mv lv wv wv' : Value} {m : Md} {l : List It} {x : Mw} {n : Nat} (h : Sep w0 (mI w0.heap.size g sv mv lv wv m ++ (l ++ [brI w0.heap.size x.b])) u)
    (h2 : u'.ownsRow w0.heap.size 93 2 wv' n (m.waits.flatMap mwC ++ mwC x)) (hn : n = m.waits.length + 1) (h3 : u.grownBy u' wv.ownBlock) (h4 : wv'.ownBlock = wv.ownBlock ∨ wv'.ownBlock = some u.heap.size) :
    Whole u' g 67 (mdC sv mv lv wv m) ∧ Sep w0 (mI w0.heap.size g sv mv lv wv' { m with waits := m.waits ++ [x] } ++ l) (u'.setCell ⟨g, 3, none⟩ wv') := by
  have h0 : Sep w0 ((mHead w0.heap.size g sv mv lv wv m).take 4 ++ (.row w0.heap.size 93 2 wv m.waits.length (m.waits.flatMap mwC) :: (mTail w0.heap.size m ++ (l ++ [brI w0.heap.size x.b])))) u := by
    have := h
    unfold mI at this
    rw [List.append_assoc] at this
    exact this
  have h5 := (h0.perm List.perm_middle).grown h2 h3 h4
  have h6 := h5.perm List.perm_middle.symm
  have hw : Whole u' g 67 (mdC sv mv lv wv m) := h6.holds (.box g 67 (mdC sv mv lv wv m)) (by simp [mHead])
  refine ⟨hw, ?_⟩
  have h7 := Sep.set h6 3 wv'
  have e1 : ({ m with waits := m.waits ++ [x] } : Md).waits.flatMap mwC = m.waits.flatMap mwC ++ mwC x := by
    show (m.waits ++ [x]).flatMap mwC = _
    rw [List.flatMap_append]; simp
  have e2 : ({ m with waits := m.waits ++ [x] } : Md).waits.length = n := by
    show (m.waits ++ [x]).length = _
    rw [hn]; simp
  have h8 : Sep w0 ([.box g 67 (mdC sv mv lv wv' m), .row w0.heap.size 22 1 sv m.rests.length (m.rests.map Br.v), .row w0.heap.size 22 1 mv m.meants.length (m.meants.map Br.v), .row w0.heap.size 4 1 lv m.losts.length (bools m.losts), .row w0.heap.size 93 2 wv' n (m.waits.flatMap mwC ++ mwC x)] ++ (m.rests.map (brI w0.heap.size) ++ (m.meants.map (brI w0.heap.size) ++ ((m.waits.map (fun x => brI w0.heap.size x.b) ++ [brI w0.heap.size x.b]) ++ l)))) (u'.setCell ⟨g, 3, none⟩ wv') := by
    refine h7.perm ?_
    show List.Perm (_ :: _ :: _ :: _ :: _ :: (mTail w0.heap.size m ++ (l ++ [brI w0.heap.size x.b]))) (_ :: _ :: _ :: _ :: _ :: _)
    refine List.Perm.cons _ (List.Perm.cons _ (List.Perm.cons _ (List.Perm.cons _ (List.Perm.cons _ ?_))))
    unfold mTail
    simp only [List.append_assoc]
    refine List.Perm.append_left _ (List.Perm.append_left _ (List.Perm.append_left _ ?_))
    exact List.perm_append_comm
  unfold mI mTail mHead
  rw [e1, e2]
  simp only [List.append_assoc, List.map_append, List.map_cons, List.map_nil, List.cons_append, List.nil_append] at h8 ⊢
  exact h8
theorem info_rwrite : (Try.prog.info? 93).map (fun i => (i.zero, i.size, i.bytes)) = some (some (.agg #[.int .i64 0, .slice none 0 0]), 2, 32) := by kernel_rfl
theorem mwC_one (x : Mw) (hx : x.b.v.oneCell' = true) : ∀ v ∈ mwC x, v.oneCell' = true := by
  intro v hv
  simp [mwC] at hv
  rcases hv with rfl | rfl
  · rfl
  · exact hx
theorem rwait_rel {m : Md} {d : Dk} (h : Rel m d) (S : Sec) (k : Nat) (x : Br) (hx : x.l = S.l) : Rel { m with waits := m.waits ++ [⟨k, x⟩] } { d with waits := d.waits ++ [⟨S, k⟩] } := by
  obtain ⟨h1, h2, h3, h4, h5, h6, h7⟩ := h
  refine ⟨h1, h2, h3, ?_, h5, h6, h7⟩
  show (m.waits ++ [_]).map _ = (d.waits ++ [_]).map _
  rw [List.map_append, List.map_append, h4]
  simp [hx]
set_option maxRecDepth 100000 in
set_option maxHeartbeats 8000000 in
theorem rwrite_done (m : Md) (d : Dk) (hr : Rel m d) (ho : Ok d) (s : Int) (S : Sec) (g : Nat) (sv mv lv wv bv : Value) {w0 : World} {l : List It} {w : World} (hS : Sep w0 (mI w0.heap.size g sv mv lv wv m ++ l) w) (hK : Stays w0 l bv 64 (u8s S.l)) (hfew : d.waits.length ≤ 1000000000)
    (hup : d.up = true) (hin : inn d s = true) (h0 : ¬ d.left = 0) :
    Calls Try.prog 49 #[.pointer (some ⟨g, 0, none⟩), .int .i64 s, bv] w fun e w' => e = .returned (.int .i64 0) ∧ ∃ wv' m', Rel m' { spendD d with waits := (spendD d).waits ++ [⟨S, s.toNat⟩] } ∧ Sep w0 (mI w0.heap.size g sv mv lv wv' m' ++ l) w' := by
  obtain ⟨ka, kc, rfl, hz1, hz2⟩ := (hK.now hS).slice
  clear hz1 hz2
  have T := Lib.hid (has_is m d hr s g sv mv lv wv w hS)
  have P := Lib.hid (rspend_is m (by rw [hr.power]; exact ho.left) (by rw [hr.power]; exact ho.few) g sv mv lv wv w hS)
  have HRS := Lib.hid (rspend_rel hr)
  have HK := Lib.hid hK
  obtain ⟨h1, h2⟩ := inn_at hin
  have hW := mI_box hS
  have c4 := hW.cell 4; have c5 := hW.cell 5
  simp only [mdC, List.getElem?_cons_zero, List.getElem?_cons_succ] at c4 c5
  have hu := hr.up
  have hpw := hr.power
  rw [hpw] at P
  obtain ⟨dn, hdn⟩ : ∃ x, m.down = x := ⟨_, rfl⟩
  obtain ⟨dd, hdd⟩ : ∃ x, m.dead = x := ⟨_, rfl⟩
  rw [hdn, hdd, hup] at hu
  rw [hdn] at c4
  rw [hdd] at c5
  clear hdn hdd hpw
  cases dn <;> cases dd
  rotate_left
  · cases hu
  · cases hu
  · cases hu
  have hp0 : decide (d.left = 0) = false := by simp [h0]
  rw [hp0] at P
  rw [hin] at T
  have hwl : (rspend m).waits.length = d.waits.length := by
    have := HRS.out.lw
    rw [spend_waits] at this
    exact this
  obtain ⟨M, hM⟩ : ∃ M, (rspend m).waits.length = M := ⟨_, rfl⟩
  have HM := Lib.hid hM
  have hM9 : M ≤ 1000000000 := by omega
  have hsn : (s.toNat : Int) = s := by omega
  obtain ⟨i0, hi, hz0, hz1, hz2⟩ := info_parts info_rwrite
  clear hS hr ho hK hfew hup hp0 h0 hin hu hW hwl hM
  generalize rspend m = m1 at *
  go_enter Try.func49, Try.ntmps49
  go_wp2_with fail
  refine T.out.mono ?_
  rintro e u ⟨rfl, rfl⟩
  go_wp2_with fail
  refine P.out.mono ?_
  rintro e u ⟨rfl, hs⟩
  obtain ⟨A, c', hwv, hy1, hy2⟩ := (Row.of_own (mI_waits hs)).slice
  subst hwv
  clear hy1 hy2
  rw [HM.out] at hs
  have HD := Lib.hid hs.drew
  clear hs T P c4 c5
  have HC := Lib.hid (copy_is S.l (.slice ka 64 kc) _ HD.out (by rw [S.h]; exact HK.out.now HD.out) (by rw [S.h]; omega))
  have cD := (mI_box HD.out).cell 3
  simp only [mdC, List.getElem?_cons_zero, List.getElem?_cons_succ] at cD
  go_wp2_with fail
  refine wp_region_held_drew (S := (fun _ : World => True)) (by kernel_rfl) (trivial) (fun HS => ?_)
  refine handTake 0 (some 29) ?_ rfl rfl (by kernel_rfl) (by kernel_rfl) (by kernel_rfl) (fun _ _ _ h => h) (by rfl) ?_ HS ?_
  rotate_left
  · (intro u hu; (try dsimp only at hu); go_simp; try with_reducible rfl)
  simp only [Act.put, List.setIfInBounds_toArray, List.set_cons_zero, List.set_cons_succ]
  refine handTake 1 (some 30) ?_ rfl rfl (by kernel_rfl) (by kernel_rfl) (by kernel_rfl) (fun _ _ _ h => h) (by rfl) ?_ HS ?_
  rotate_left
  · (intro u hu; (try dsimp only at hu); go_simp; try with_reducible rfl)
  simp only [Act.put, List.setIfInBounds_toArray, List.set_cons_zero, List.set_cons_succ]
  refine handTake 2 (some 31) ?_ rfl rfl (by kernel_rfl) (by kernel_rfl) (by kernel_rfl) (fun _ _ _ h => h) (by rfl) ?_ HS ?_
  rotate_left
  · (intro u hu; (try dsimp only at hu); go_simp; try with_reducible rfl)
  simp only [Act.put, List.setIfInBounds_toArray, List.set_cons_zero, List.set_cons_succ]
  refine handTake 3 (some 32) ?_ rfl rfl (by kernel_rfl) (by kernel_rfl) (by kernel_rfl) (fun _ _ _ h => h) (by rfl) ?_ HS ?_
  rotate_left
  · (intro u hu; (try dsimp only at hu); go_simp; try with_reducible rfl)
  simp only [Act.put, List.setIfInBounds_toArray, List.set_cons_zero, List.set_cons_succ]
  refine handTake 5 (some 34) ?_ rfl rfl (by kernel_rfl) (by kernel_rfl) (by kernel_rfl) (fun _ _ _ h => h) (by rfl) ?_ HS ?_
  rotate_left
  · (intro u hu; (try dsimp only at hu); go_simp; try with_reducible rfl)
  simp only [Act.put, List.setIfInBounds_toArray, List.set_cons_zero, List.set_cons_succ]
  refine handTake 6 (some 35) ?_ rfl rfl (by kernel_rfl) (by kernel_rfl) (by kernel_rfl) (fun _ _ _ h => h) (by rfl) ?_ HS ?_
  rotate_left
  · (intro u hu; (try dsimp only at hu); go_simp; try with_reducible rfl)
  simp only [Act.put, List.setIfInBounds_toArray, List.set_cons_zero, List.set_cons_succ]
  refine wpAnyH_ready (rs := [4, 7]) (by kernel_rfl) (by simp) ?_
  refine AllReadyH.cons rfl (fun K hK => ?_) ?_
  · clear HS
    go_simp
    refine hK.out _ _ (trivial) (fun HS => ?_)
    clear hK
    try simp only [Act.put, List.setIfInBounds_toArray, List.set_cons_zero, List.set_cons_succ]
    refine wpAnyH_ready (rs := [7]) (by kernel_rfl) (by simp) ?_
    refine AllReadyH.cons rfl (fun K hK => ?_) AllReadyH.nil
    clear HS
    go_simp
    refine HC.out.mono ?_
    rintro e v1 ⟨x1, rfl, hs⟩
    obtain ⟨xa, xc, hxv, hy1, hy2⟩ := (rowB_row (base := w0.heap.size) (v := x1) (xs := S.l) hs (by simp)).slice
    clear hy1 hy2
    rw [S.h] at hxv
    subst hxv
    rw [List.append_assoc] at hs
    have HE : Hid (Sep w0 (mI w0.heap.size g sv mv lv (.slice A M c') m1 ++ (l ++ [brI w0.heap.size ⟨.slice xa 64 xc, S.l⟩])) v1) := hs
    have HF : Hid (Sep w0 (mI w0.heap.size g sv mv lv (.slice A M c') m1 ++ (l ++ [brI w0.heap.size ⟨.slice xa 64 xc, S.l⟩])) (v1.alloc (.cells #[.int .i64 s, .slice xa 64 xc] 93))) := hs.fresh (.cells #[.int .i64 s, .slice xa 64 xc] 93)
    have HN : Hid (Whole (v1.alloc (.cells #[.int .i64 s, .slice xa 64 xc] 93)) v1.heap.size 93 [.int .i64 s, .slice xa 64 xc]) := Whole.new _ _ _
    have HOA := mI_waits HF.out
    rw [HM.out] at HOA
    have HOA := Lib.hid HOA
    have hz9 := hs.size
    have cE := (mI_box HE.out).cell 3
    have cF := (mI_box HF.out).cell 3
    simp only [mdC, List.getElem?_cons_zero, List.getElem?_cons_succ] at cE cF
    clear hs
    go_wp2_with fail
    refine hK.out _ _ (trivial) (fun HS => ?_)
    clear hK
    try simp only [Act.put, List.setIfInBounds_toArray, List.set_cons_zero, List.set_cons_succ]
    refine handTake 8 (some 37) ?_ rfl rfl (by kernel_rfl) (by kernel_rfl) (by kernel_rfl) (fun _ _ _ h => h) (by rfl) ?_ HS ?_
    rotate_left
    · (intro u hu; (try dsimp only at hu); go_simp; try with_reducible rfl)
    simp only [Act.put, List.setIfInBounds_toArray, List.set_cons_zero, List.set_cons_succ]
    refine wpAnyH_ready (rs := [9]) (by kernel_rfl) (by simp) ?_
    refine AllReadyH.cons rfl (fun K hK => ?_) AllReadyH.nil
    clear HS
    go_simp
    refine hK.out _ _ (trivial) (fun HS => ?_)
    clear hK
    try simp only [Act.put, List.setIfInBounds_toArray, List.set_cons_zero, List.set_cons_succ]
    refine wpAnyH_ready (rs := [10]) (by kernel_rfl) (by simp) ?_
    refine AllReadyH.cons rfl (fun K hK => ?_) AllReadyH.nil
    clear HS
    refine step_append_foot _ rfl (.tmp 33) (.tmp 38) _ (by rfl) w0.heap.size 93 i0 _ 2 32 Try.underlying65 hi hz0 hz1 hz2 rfl (by decide) (.slice A M c') M (m1.waits.flatMap mwC) (by rfl) HOA.out (v1.heap.size + 1) _ 1 [.int .i64 s, .slice xa 64 xc] (by rfl) (Row.blk HN.out rfl (by omega) (by simp [maxLen])) (by simp) (by intro v hv; simp at hv; rcases hv with rfl | rfl <;> rfl) (by unfold maxLen; omega) (by omega) (by rw [sz1]; omega) ?_
    intro v7 w7 h7 hg7 hv7
    have hmx : [Value.int .i64 s, .slice xa 64 xc] = mwC ⟨s.toNat, ⟨.slice xa 64 xc, S.l⟩⟩ := by unfold mwC; dsimp only; rw [hsn]
    rw [hmx] at h7
    have HG := Lib.hid (mI_grownW (x := ⟨s.toNat, ⟨.slice xa 64 xc, S.l⟩⟩) HF.out h7 (by rw [HM.out]) hg7 hv7)
    have c7 := HG.out.1.cell 3
    have f7 := HG.out.1.free 3
    simp only [mdC, List.getElem?_cons_zero, List.getElem?_cons_succ] at c7
    obtain ⟨A7, c7', hv7', hy1, hy2⟩ := (Row.of_own h7).slice
    subst hv7'
    clear h7 hg7 hv7 hy1 hy2
    refine hK.out _ _ (trivial) (fun HS => ?_)
    clear hK
    try simp only [Act.put, List.setIfInBounds_toArray, List.set_cons_zero, List.set_cons_succ]
    refine handTake 11 (some 40) ?_ rfl rfl (by kernel_rfl) (by kernel_rfl) (by kernel_rfl) (fun _ _ _ h => h) (by rfl) ?_ HS ?_
    rotate_left
    · (intro u hu; (try dsimp only at hu); go_simp; try with_reducible rfl)
    simp only [Act.put, List.setIfInBounds_toArray, List.set_cons_zero, List.set_cons_succ]
    refine handTake 12 (some 41) ?_ rfl rfl (by kernel_rfl) (by kernel_rfl) (by kernel_rfl) (fun _ _ _ h => h) (by rfl) ?_ HS ?_
    rotate_left
    · (intro u hu; (try dsimp only at hu); go_simp; try with_reducible rfl)
    simp only [Act.put, List.setIfInBounds_toArray, List.set_cons_zero, List.set_cons_succ]
    refine wpAnyH_ready (rs := [13]) (by kernel_rfl) (by simp) ?_
    refine AllReadyH.cons rfl (fun K hK => ?_) AllReadyH.nil
    clear HS
    go_simp
    refine hK.out _ _ (trivial) (fun HS => ?_)
    clear hK
    try simp only [Act.put, List.setIfInBounds_toArray, List.set_cons_zero, List.set_cons_succ]
    refine wpAnyH_done (by kernel_rfl) ?_ _
    clear HS
    go_wp2_with fail
    go_ret
    exact ⟨rfl, .slice A7 (M + 1) c7', _, rwait_rel HRS.out S s.toNat ⟨.slice xa 64 xc, S.l⟩ rfl, HG.out.2⟩
  refine AllReadyH.cons rfl (fun K hK => ?_) ?_
  · clear HS
    go_simp
    refine HC.out.mono ?_
    rintro e v1 ⟨x1, rfl, hs⟩
    obtain ⟨xa, xc, hxv, hy1, hy2⟩ := (rowB_row (base := w0.heap.size) (v := x1) (xs := S.l) hs (by simp)).slice
    clear hy1 hy2
    rw [S.h] at hxv
    subst hxv
    rw [List.append_assoc] at hs
    have HE : Hid (Sep w0 (mI w0.heap.size g sv mv lv (.slice A M c') m1 ++ (l ++ [brI w0.heap.size ⟨.slice xa 64 xc, S.l⟩])) v1) := hs
    have HF : Hid (Sep w0 (mI w0.heap.size g sv mv lv (.slice A M c') m1 ++ (l ++ [brI w0.heap.size ⟨.slice xa 64 xc, S.l⟩])) (v1.alloc (.cells #[.int .i64 s, .slice xa 64 xc] 93))) := hs.fresh (.cells #[.int .i64 s, .slice xa 64 xc] 93)
    have HN : Hid (Whole (v1.alloc (.cells #[.int .i64 s, .slice xa 64 xc] 93)) v1.heap.size 93 [.int .i64 s, .slice xa 64 xc]) := Whole.new _ _ _
    have HOA := mI_waits HF.out
    rw [HM.out] at HOA
    have HOA := Lib.hid HOA
    have hz9 := hs.size
    have cE := (mI_box HE.out).cell 3
    have cF := (mI_box HF.out).cell 3
    simp only [mdC, List.getElem?_cons_zero, List.getElem?_cons_succ] at cE cF
    clear hs
    go_wp2_with fail
    refine hK.out _ _ (trivial) (fun HS => ?_)
    clear hK
    try simp only [Act.put, List.setIfInBounds_toArray, List.set_cons_zero, List.set_cons_succ]
    refine handTake 8 (some 37) ?_ rfl rfl (by kernel_rfl) (by kernel_rfl) (by kernel_rfl) (fun _ _ _ h => h) (by rfl) ?_ HS ?_
    rotate_left
    · (intro u hu; (try dsimp only at hu); go_simp; try with_reducible rfl)
    simp only [Act.put, List.setIfInBounds_toArray, List.set_cons_zero, List.set_cons_succ]
    refine wpAnyH_ready (rs := [4, 9]) (by kernel_rfl) (by simp) ?_
    refine AllReadyH.cons rfl (fun K hK => ?_) ?_
    · clear HS
      go_simp
      refine hK.out _ _ (trivial) (fun HS => ?_)
      clear hK
      try simp only [Act.put, List.setIfInBounds_toArray, List.set_cons_zero, List.set_cons_succ]
      refine wpAnyH_ready (rs := [9]) (by kernel_rfl) (by simp) ?_
      refine AllReadyH.cons rfl (fun K hK => ?_) AllReadyH.nil
      clear HS
      go_simp
      refine hK.out _ _ (trivial) (fun HS => ?_)
      clear hK
      try simp only [Act.put, List.setIfInBounds_toArray, List.set_cons_zero, List.set_cons_succ]
      refine wpAnyH_ready (rs := [10]) (by kernel_rfl) (by simp) ?_
      refine AllReadyH.cons rfl (fun K hK => ?_) AllReadyH.nil
      clear HS
      refine step_append_foot _ rfl (.tmp 33) (.tmp 38) _ (by rfl) w0.heap.size 93 i0 _ 2 32 Try.underlying65 hi hz0 hz1 hz2 rfl (by decide) (.slice A M c') M (m1.waits.flatMap mwC) (by rfl) HOA.out (v1.heap.size + 1) _ 1 [.int .i64 s, .slice xa 64 xc] (by rfl) (Row.blk HN.out rfl (by omega) (by simp [maxLen])) (by simp) (by intro v hv; simp at hv; rcases hv with rfl | rfl <;> rfl) (by unfold maxLen; omega) (by omega) (by rw [sz1]; omega) ?_
      intro v7 w7 h7 hg7 hv7
      have hmx : [Value.int .i64 s, .slice xa 64 xc] = mwC ⟨s.toNat, ⟨.slice xa 64 xc, S.l⟩⟩ := by unfold mwC; dsimp only; rw [hsn]
      rw [hmx] at h7
      have HG := Lib.hid (mI_grownW (x := ⟨s.toNat, ⟨.slice xa 64 xc, S.l⟩⟩) HF.out h7 (by rw [HM.out]) hg7 hv7)
      have c7 := HG.out.1.cell 3
      have f7 := HG.out.1.free 3
      simp only [mdC, List.getElem?_cons_zero, List.getElem?_cons_succ] at c7
      obtain ⟨A7, c7', hv7', hy1, hy2⟩ := (Row.of_own h7).slice
      subst hv7'
      clear h7 hg7 hv7 hy1 hy2
      refine hK.out _ _ (trivial) (fun HS => ?_)
      clear hK
      try simp only [Act.put, List.setIfInBounds_toArray, List.set_cons_zero, List.set_cons_succ]
      refine handTake 11 (some 40) ?_ rfl rfl (by kernel_rfl) (by kernel_rfl) (by kernel_rfl) (fun _ _ _ h => h) (by rfl) ?_ HS ?_
      rotate_left
      · (intro u hu; (try dsimp only at hu); go_simp; try with_reducible rfl)
      simp only [Act.put, List.setIfInBounds_toArray, List.set_cons_zero, List.set_cons_succ]
      refine handTake 12 (some 41) ?_ rfl rfl (by kernel_rfl) (by kernel_rfl) (by kernel_rfl) (fun _ _ _ h => h) (by rfl) ?_ HS ?_
      rotate_left
      · (intro u hu; (try dsimp only at hu); go_simp; try with_reducible rfl)
      simp only [Act.put, List.setIfInBounds_toArray, List.set_cons_zero, List.set_cons_succ]
      refine wpAnyH_ready (rs := [13]) (by kernel_rfl) (by simp) ?_
      refine AllReadyH.cons rfl (fun K hK => ?_) AllReadyH.nil
      clear HS
      go_simp
      refine hK.out _ _ (trivial) (fun HS => ?_)
      clear hK
      try simp only [Act.put, List.setIfInBounds_toArray, List.set_cons_zero, List.set_cons_succ]
      refine wpAnyH_done (by kernel_rfl) ?_ _
      clear HS
      go_wp2_with fail
      go_ret
      exact ⟨rfl, .slice A7 (M + 1) c7', _, rwait_rel HRS.out S s.toNat ⟨.slice xa 64 xc, S.l⟩ rfl, HG.out.2⟩
    refine AllReadyH.cons rfl (fun K hK => ?_) ?_
    · clear HS
      go_simp
      refine hK.out _ _ (trivial) (fun HS => ?_)
      clear hK
      try simp only [Act.put, List.setIfInBounds_toArray, List.set_cons_zero, List.set_cons_succ]
      refine wpAnyH_ready (rs := [4]) (by kernel_rfl) (by simp) ?_
      refine AllReadyH.cons rfl (fun K hK => ?_) AllReadyH.nil
      clear HS
      go_simp
      refine hK.out _ _ (trivial) (fun HS => ?_)
      clear hK
      try simp only [Act.put, List.setIfInBounds_toArray, List.set_cons_zero, List.set_cons_succ]
      refine wpAnyH_ready (rs := [10]) (by kernel_rfl) (by simp) ?_
      refine AllReadyH.cons rfl (fun K hK => ?_) AllReadyH.nil
      clear HS
      refine step_append_foot _ rfl (.tmp 33) (.tmp 38) _ (by rfl) w0.heap.size 93 i0 _ 2 32 Try.underlying65 hi hz0 hz1 hz2 rfl (by decide) (.slice A M c') M (m1.waits.flatMap mwC) (by rfl) HOA.out (v1.heap.size + 1) _ 1 [.int .i64 s, .slice xa 64 xc] (by rfl) (Row.blk HN.out rfl (by omega) (by simp [maxLen])) (by simp) (by intro v hv; simp at hv; rcases hv with rfl | rfl <;> rfl) (by unfold maxLen; omega) (by omega) (by rw [sz1]; omega) ?_
      intro v7 w7 h7 hg7 hv7
      have hmx : [Value.int .i64 s, .slice xa 64 xc] = mwC ⟨s.toNat, ⟨.slice xa 64 xc, S.l⟩⟩ := by unfold mwC; dsimp only; rw [hsn]
      rw [hmx] at h7
      have HG := Lib.hid (mI_grownW (x := ⟨s.toNat, ⟨.slice xa 64 xc, S.l⟩⟩) HF.out h7 (by rw [HM.out]) hg7 hv7)
      have c7 := HG.out.1.cell 3
      have f7 := HG.out.1.free 3
      simp only [mdC, List.getElem?_cons_zero, List.getElem?_cons_succ] at c7
      obtain ⟨A7, c7', hv7', hy1, hy2⟩ := (Row.of_own h7).slice
      subst hv7'
      clear h7 hg7 hv7 hy1 hy2
      refine hK.out _ _ (trivial) (fun HS => ?_)
      clear hK
      try simp only [Act.put, List.setIfInBounds_toArray, List.set_cons_zero, List.set_cons_succ]
      refine handTake 11 (some 40) ?_ rfl rfl (by kernel_rfl) (by kernel_rfl) (by kernel_rfl) (fun _ _ _ h => h) (by rfl) ?_ HS ?_
      rotate_left
      · (intro u hu; (try dsimp only at hu); go_simp; try with_reducible rfl)
      simp only [Act.put, List.setIfInBounds_toArray, List.set_cons_zero, List.set_cons_succ]
      refine handTake 12 (some 41) ?_ rfl rfl (by kernel_rfl) (by kernel_rfl) (by kernel_rfl) (fun _ _ _ h => h) (by rfl) ?_ HS ?_
      rotate_left
      · (intro u hu; (try dsimp only at hu); go_simp; try with_reducible rfl)
      simp only [Act.put, List.setIfInBounds_toArray, List.set_cons_zero, List.set_cons_succ]
      refine wpAnyH_ready (rs := [13]) (by kernel_rfl) (by simp) ?_
      refine AllReadyH.cons rfl (fun K hK => ?_) AllReadyH.nil
      clear HS
      go_simp
      refine hK.out _ _ (trivial) (fun HS => ?_)
      clear hK
      try simp only [Act.put, List.setIfInBounds_toArray, List.set_cons_zero, List.set_cons_succ]
      refine wpAnyH_done (by kernel_rfl) ?_ _
      clear HS
      go_wp2_with fail
      go_ret
      exact ⟨rfl, .slice A7 (M + 1) c7', _, rwait_rel HRS.out S s.toNat ⟨.slice xa 64 xc, S.l⟩ rfl, HG.out.2⟩
    exact AllReadyH.nil
  exact AllReadyH.nil
set_option maxRecDepth 100000 in
set_option maxHeartbeats 4000000 in
theorem rwrite_is (m : Md) (d : Dk) (hr : Rel m d) (ho : Ok d) (hfew : d.waits.length ≤ 1000000000) (s : Int) (bs : List Int) (bv : Value) (g : Nat) (sv mv lv wv : Value) {w0 : World} {l : List It} (w : World) (hS : Sep w0 (mI w0.heap.size g sv mv lv wv m ++ l) w) (hK : Stays w0 l bv bs.length (u8s bs)) :
    Calls Try.prog 49 #[.pointer (some ⟨g, 0, none⟩), .int .i64 s, bv] w fun e w' => e = .returned (.int .i64 (writeE d s bs)) ∧ ∃ wv' m', Rel m' (writeD d s bs) ∧ Sep w0 (mI w0.heap.size g sv mv lv wv' m' ++ l) w' := by
  obtain ⟨ka, kc, rfl, hz1, hz2⟩ := (hK.now hS).slice
  have hbd := (hK.now hS).bound
  clear hz1 hz2
  have T := Lib.hid (has_is m d hr s g sv mv lv wv w hS)
  have P := Lib.hid (rspend_is m (by rw [hr.power]; exact ho.left) (by rw [hr.power]; exact ho.few) g sv mv lv wv w hS)
  have HS := Lib.hid hS
  have HR := Lib.hid hr
  have HO := Lib.hid ho
  have HRS := Lib.hid (rspend_rel hr)
  have HK := Lib.hid hK
  have HFEW := Lib.hid hfew
  have hW := mI_box hS
  have c4 := hW.cell 4; have c5 := hW.cell 5
  simp only [mdC, List.getElem?_cons_zero, List.getElem?_cons_succ] at c4 c5
  have HU := Lib.hid hr.up
  have hpw := hr.power
  rw [hpw] at P
  obtain ⟨dn, hdn⟩ : ∃ x, m.down = x := ⟨_, rfl⟩
  obtain ⟨dd, hdd⟩ : ∃ x, m.dead = x := ⟨_, rfl⟩
  rw [hdn, hdd] at HU
  rw [hdn] at c4
  rw [hdd] at c5
  clear hdn hdd hpw hW hS hr ho hK hfew
  obtain ⟨N, hN⟩ : ∃ N, bs.length = N := ⟨_, rfl⟩
  rw [hN] at HK hbd ⊢
  have HN := Lib.hid hN
  clear hN
  cases hup : d.up
  · have hE : writeE d s bs = 5 := by unfold writeE; rw [hup]; rfl
    have hD : Hid (writeD d s bs = d) := by show writeD d s bs = d; unfold writeD; rw [hup]; rfl
    rw [hE]
    have hu := HU.out
    rw [hup] at hu
    clear hE hup HU
    cases dn <;> cases dd
    · cases hu
    all_goals
      clear hu
      go_enter Try.func49, Try.ntmps49
      go_wp2_with fail
      go_ret
      exact ⟨rfl, wv, m, by rw [hD.out]; exact HR.out, HS.out⟩
  by_cases hall : inn d s = true ∧ N = 64 ∧ ¬ d.left = 0
  · obtain ⟨hin, rfl, h0⟩ := hall
    have G := rwrite_done m d HR.out HO.out s ⟨bs, HN.out⟩ g sv mv lv wv (.slice ka 64 kc) HS.out HK.out HFEW.out hup hin h0
    have hE : writeE d s bs = 0 := by unfold writeE spendE; rw [hup, hin]; simp [h0, HN.out]
    have hD : writeD d s bs = { spendD d with waits := (spendD d).waits ++ [⟨⟨bs, HN.out⟩, s.toNat⟩] } := by
      unfold writeD
      rw [hup, hin, spend_waits, if_pos rfl, if_pos rfl, dif_pos HN.out, if_neg h0]
    rw [hE, hD]
    exact G
  have hu := HU.out
  rw [hup] at hu
  cases dn <;> cases dd
  rotate_left
  · cases hu
  · cases hu
  · cases hu
  clear hu HU
  cases hin : inn d s
  · have hE : writeE d s bs = 2 := by unfold writeE; rw [hup, hin]; rfl
    have hD : Hid (writeD d s bs = d) := by show writeD d s bs = d; unfold writeD; rw [hup, hin]; rfl
    rw [hE]
    rw [hin] at T
    clear hE hup hin hall P
    go_enter Try.func49, Try.ntmps49
    go_wp2_with fail
    refine T.out.mono ?_
    rintro e u ⟨rfl, rfl⟩
    go_wp2_with fail
    go_ret
    exact ⟨rfl, wv, m, by rw [hD.out]; exact HR.out, HS.out⟩
  rw [hin] at T
  by_cases hl : N = 64
  · have h0 : d.left = 0 := by
      by_cases h0 : d.left = 0
      · exact h0
      · exact absurd ⟨hin, hl, h0⟩ hall
    subst hl
    have hE : writeE d s bs = 5 := by unfold writeE spendE; rw [hup, hin]; simp [h0, HN.out]
    have hD : Hid (writeD d s bs = spendD d) := by show writeD d s bs = _; unfold writeD; rw [hup, hin]; simp [h0, HN.out]
    have hp0 : decide (d.left = 0) = true := by simp [h0]
    rw [hE]
    rw [hp0] at P
    clear hE hup h0 hin hall hp0
    go_enter Try.func49, Try.ntmps49
    go_wp2_with fail
    refine T.out.mono ?_
    rintro e u ⟨rfl, rfl⟩
    go_wp2_with fail
    refine P.out.mono ?_
    rintro e u ⟨rfl, hs⟩
    have HS2 := Lib.hid hs
    clear hs
    go_wp2_with fail
    go_ret
    exact ⟨rfl, _, _, by rw [hD.out]; exact HRS.out, HS2.out⟩
  · have hE : writeE d s bs = 2 := by unfold writeE; rw [hup, hin]; simp [HN.out, hl]
    have hD : Hid (writeD d s bs = d) := by show writeD d s bs = d; unfold writeD; rw [hup, hin]; simp [HN.out, hl]
    have hl' : ((N : Int) == 64) = false := by rw [beq_eq_false_iff_ne]; omega
    rw [hE]
    clear hE hup hin hl hall P
    go_enter Try.func49, Try.ntmps49
    go_wp2_with fail
    refine T.out.mono ?_
    rintro e u ⟨rfl, rfl⟩
    go_wp2_with fail
    go_ret
    exact ⟨rfl, wv, m, by rw [hD.out]; exact HR.out, HS.out⟩
end Di
end Go.Proofs.Ytnjejffbcgchlaa
