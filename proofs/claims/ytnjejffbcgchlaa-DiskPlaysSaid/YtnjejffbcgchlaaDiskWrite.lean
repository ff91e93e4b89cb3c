/- A write: Write. -/
import Derived.Test.YtnjejffbcgchlaaDiskOps
import Derived.Deep.RegionHeld3
set_option linter.unusedSimpArgs false
set_option linter.unusedVariables false
namespace Go.Proofs.Ytnjejffbcgchlaa
open Go.RowKit
namespace Di
theorem exec_toArray {op : Oper} {a : Act} {w : World} (x : Operand) (ho : op.op = .sliceToArrayPointer 74 x) (ad : Addr) (c : Nat) (hx : a.eval x = .slice (some ad) 64 c) :
    (execOp a.eval op).run Try.prog w = .ok (.value (.pointer (some ad))) w := by
  unfold execOp
  simp [ho, hx, Instr.arrayAt, run_underlying Try.underlying74, Sem.run_bind]
theorem step_value {P : Program} {ops : Array Oper} {o : Oper} {a : Act} {w : World} {K : Act → World → Prop} {Q : Exit → Act → World → Prop} {E : Prop} (hgd : o.guard = none) (v : Value) (w' : World) (hx : (execOp a.eval o).run P w = .ok (.value v) w') (h : K (a.put o.dst v) w') :
    if Region.wanted o (yielded ops a.tmps) = true then Oper.wp P o a w K Q else E := by
  rw [if_pos (by simp [Region.wanted, hgd])]
  unfold Oper.wp
  rw [hx]
  exact h
theorem row_range {w : World} {B g o c : Nat} {n : Nat} {xs : List Value} (h : Row w B (.slice (some ⟨g, o, none⟩) n c) n xs) : w.rangeAt g o xs := fun j v hv => by
  obtain ⟨b, off, hA, _, hx⟩ := h.at_ (List.getElem?_eq_some_iff.1 hv).1
  injection hA with hA
  injection hA with e1 e2
  subst e1 e2
  exact hx j v hv
theorem dI_grown {w0 u u' : World} {b : Nat} {pv wv wv' : Value} {d : Dk} {l : List It} {x : Wr} {n : Nat} (h : Sep w0 (dI w0.heap.size b pv wv d ++ l) u)
    (h2 : u'.ownsRow w0.heap.size 76 65 wv' n (d.waits.flatMap wrC ++ wrC x)) (hn : n = d.waits.length + 1) (h3 : u.grownBy u' wv.ownBlock) (h4 : wv'.ownBlock = wv.ownBlock ∨ wv'.ownBlock = some u.heap.size) :
    (Whole u' b 54 (dkC pv wv d) ∧ ∃ a, Sep w0 (a ++ l) u') ∧ Sep w0 (dI w0.heap.size b pv wv' { d with waits := d.waits ++ [x] } ++ l) (u'.setCell ⟨b, 1, none⟩ wv') := by
  have h1 : Sep w0 (.row w0.heap.size 76 65 wv d.waits.length (d.waits.flatMap wrC) :: .box b 54 (dkC pv wv d) :: .row w0.heap.size 82 129 pv d.places.length (d.places.flatMap plC) :: l) u :=
    h.perm ((List.Perm.cons _ (List.Perm.swap _ _ _)).trans (List.Perm.swap _ _ _))
  have h5 := (h1.grown h2 h3 h4).exch
  refine ⟨⟨h5.head, [_, _, _], h5⟩, ?_⟩
  have h6 := h5.set 1 wv'
  have h7 : Sep w0 (.box b 54 (dkC pv wv' d) :: .row w0.heap.size 82 129 pv d.places.length (d.places.flatMap plC) :: .row w0.heap.size 76 65 wv' n (d.waits.flatMap wrC ++ wrC x) :: l) (u'.setCell ⟨b, 1, none⟩ wv') :=
    h6.perm (List.Perm.cons _ (List.Perm.swap _ _ _))
  unfold dI
  rw [List.length_append, List.flatMap_append, List.length_singleton, ← hn]
  show Sep w0 (_ :: _ :: .row _ _ _ _ _ (_ ++ (wrC x ++ [])) :: l) _
  rw [List.append_nil]
  exact h7
set_option maxRecDepth 100000 in
set_option maxHeartbeats 4000000 in
theorem write_done (d : Dk) (ho : Ok d) (s : Int) (S : Sec) (b : Nat) (pv wv bv : Value) {w0 : World} {l : List It} {w : World} (hS : Sep w0 (dI w0.heap.size b pv wv d ++ l) w) (hK : Stays w0 l bv 64 (secC S)) (hfew : d.waits.length ≤ 1000000000)
    (hup : d.up = true) (hin : inn d s = true) (h0 : ¬ d.left = 0) :
    Calls Try.prog 12 #[.pointer (some ⟨b, 0, none⟩), .int .i64 s, bv] w fun e w' => e = .returned (.int .i64 0) ∧ ∃ wv', Sep w0 (dI w0.heap.size b pv wv' { spendD d with waits := (spendD d).waits ++ [⟨S, s.toNat⟩] } ++ l) w' := by
  obtain ⟨ka, kc, rfl, _, _⟩ := (hK.now hS).slice
  have hS1 := hS.fresh (.cells #[.int .i64 s] 3)
  have T := Lib.hid (live_is [s] d ho b (w.heap.size + 1) pv wv _ _ hS1 (Row.blk (Whole.new w 3 [.int .i64 s]) rfl (by omega) (by simp [maxLen])))
  have P := Lib.hid (spend_is d ho b pv wv _ hS1)
  have HK := Lib.hid hK
  have HFEW := Lib.hid hfew
  obtain ⟨h1, h2⟩ := inn_at hin
  have hP : spendE d = 0 := by unfold spendE; simp [h0]
  rw [live_one, hup, hin] at T
  simp only [if_true] at T
  rw [hP] at P
  have HWS := Lib.hid (spend_waits d)
  clear hS hS1 ho hK hfew hup hP h0 hin
  go_enter Try.func12, Try.ntmps12
  go_wp2_with fail
  refine T.out.mono ?_
  rintro e u ⟨rfl, rfl⟩
  go_wp2_with fail
  refine P.out.mono ?_
  rintro e u ⟨rfl, hs⟩
  have HS2 := Lib.hid hs
  have hrow := HK.out.now hs
  obtain ⟨g2, o2, rfl, _, _⟩ := hrow.at_ (j := 0) (by rw [secC_len]; omega)
  have hrng := Lib.hid (row_range hrow)
  have hW := dI_box hs
  have c1 := hW.cell 1
  simp only [dkC, List.getElem?_cons_zero, List.getElem?_cons_succ] at c1
  obtain ⟨A, c', rfl, _, _⟩ := (Row.of_own (dI_waits hs)).slice
  have HQ := Lib.hid (dI_waits hs)
  rw [HWS.out] at HQ c1
  obtain ⟨i0, hi, hz0, hz1, hz2⟩ := info_parts info_write
  obtain ⟨M, hM⟩ : ∃ M, d.waits.length = M := ⟨_, rfl⟩
  have HM := Lib.hid hM
  rw [hM] at HQ c1
  have hM9 : M ≤ 1000000000 := by rw [← hM]; exact HFEW.out
  have hz9 := hs.size
  have hsn : Hid (s = (s.toNat : Int)) := by show s = _; omega
  clear hs hrow hW HFEW hM T P
  go_wp2_with fail
  obtain ⟨V, hV⟩ : ∃ V : World, V = u.drew := ⟨_, rfl⟩
  have HS3 : Hid (Sep w0 (dI w0.heap.size b pv (.slice A (spendD d).waits.length c') (spendD d) ++ l) V) := by rw [hV]; exact HS2.out.drew
  have HQ3 : Hid (V.ownsRow w0.heap.size 76 65 (.slice A M c') M (d.waits.flatMap wrC)) := by rw [hV]; exact HQ.out
  have hz3 : w0.heap.size ≤ V.heap.size := by rw [hV]; exact hz9
  have HN1 : Hid (Whole (V.alloc (.cells (wrC ⟨S, s.toNat⟩).toArray 76)) V.heap.size 76 (wrC ⟨S, s.toNat⟩)) := Whole.new _ _ _
  have HOA : Hid ((V.alloc (.cells (wrC ⟨S, s.toNat⟩).toArray 76)).ownsRow w0.heap.size 76 65 (.slice A M c') M (d.waits.flatMap wrC)) := own_below HQ3.out (be1 _ _)
  have HS4 := Lib.hid (HS3.out.fresh (.cells (wrC ⟨S, s.toNat⟩).toArray 76))
  have SV := Lib.hid (row_range (HK.out.now HS3.out))
  have SA := Lib.hid (row_range (HK.out.now HS4.out))
  have cV := (dI_box HS3.out).cell 1
  have cA := (dI_box HS4.out).cell 1
  simp only [dkC, List.getElem?_cons_zero, List.getElem?_cons_succ] at cV cA
  have hMW : (spendD d).waits.length = M := by rw [HWS.out, HM.out]
  rw [hMW] at HS4 cV cA
  clear hMW c1 hrng HQ HQ3
  refine wp_region_held_drew (S := (fun u : World => u.rangeAt g2 o2 (secC S))) (by kernel_rfl) (hV ▸ SV.out) (fun HS => ?_)
  rw [← hV] at HS ⊢
  clear hV
  refine handTake 0 (some 24) ?_ rfl rfl (by kernel_rfl) (by kernel_rfl) (by kernel_rfl) (fun _ _ _ h => h) (by rfl) ?_ HS ?_
  rotate_left
  · (intro u hu; (try dsimp only at hu); go_simp; try with_reducible rfl)
  simp only [Act.put, List.setIfInBounds_toArray, List.set_cons_zero, List.set_cons_succ]
  refine handTake 1 (some 25) ?_ rfl rfl (by kernel_rfl) (by kernel_rfl) (by kernel_rfl) (fun _ _ _ h => h) (by rfl) ?_ HS ?_
  rotate_left
  · (intro u hu; (try dsimp only at hu); go_simp; try with_reducible rfl)
  simp only [Act.put, List.setIfInBounds_toArray, List.set_cons_zero, List.set_cons_succ]
  refine handTake 2 (some 26) ?_ rfl rfl (by kernel_rfl) (by kernel_rfl) (by kernel_rfl) (fun _ _ _ h => h) (by rfl) ?_ HS ?_
  rotate_left
  · (intro u hu; (try dsimp only at hu); go_simp; try with_reducible rfl)
  simp only [Act.put, List.setIfInBounds_toArray, List.set_cons_zero, List.set_cons_succ]
  refine handTake 3 (some 27) ?_ rfl rfl (by kernel_rfl) (by kernel_rfl) (by kernel_rfl) (fun _ _ _ h => h) (by rfl) ?_ HS ?_
  rotate_left
  · (intro u hu; (try dsimp only at hu); go_simp; try with_reducible rfl)
  simp only [Act.put, List.setIfInBounds_toArray, List.set_cons_zero, List.set_cons_succ]
  refine handTake 5 (some 29) ?_ rfl rfl (by kernel_rfl) (by kernel_rfl) (by kernel_rfl) (fun _ _ _ h => h) (by rfl) ?_ HS ?_
  rotate_left
  · (intro u hu; (try dsimp only at hu); go_simp; try with_reducible rfl)
  simp only [Act.put, List.setIfInBounds_toArray, List.set_cons_zero, List.set_cons_succ]
  refine handTake 6 (some 30) (.pointer (some ⟨g2, o2, none⟩)) rfl rfl (by kernel_rfl) (by kernel_rfl) (by kernel_rfl) (fun _ _ _ h => h) (by rfl) (fun u hu => exec_toArray _ rfl ⟨g2, o2, none⟩ kc rfl) HS ?_
  simp only [Act.put, List.setIfInBounds_toArray, List.set_cons_zero, List.set_cons_succ]
  refine handTake 7 (some 31) (.agg (secC S).toArray) rfl rfl (by kernel_rfl) (by kernel_rfl) (by kernel_rfl) (fun _ _ _ h => h) (by rfl) (fun u hu => exec_loadSec _ rfl g2 o2 rfl S hu) HS ?_
  simp only [Act.put, List.setIfInBounds_toArray, List.set_cons_zero, List.set_cons_succ]
  refine handTake 8 (some 32) ?_ rfl rfl (by kernel_rfl) (by kernel_rfl) (by kernel_rfl) (fun _ _ _ h => h) (by rfl) ?_ HS ?_
  rotate_left
  · (intro u hu; (try dsimp only at hu); go_simp; try with_reducible rfl)
  simp only [Act.put, List.setIfInBounds_toArray, List.set_cons_zero, List.set_cons_succ]
  refine handTake 9 (some 33) (.agg (wrC ⟨S, s.toNat⟩).toArray) rfl rfl (by kernel_rfl) (by kernel_rfl) (by kernel_rfl) (fun _ _ _ h => h) (by rfl) (fun u hu => exec_build_wr _ _ rfl S s s.toNat hsn.out rfl rfl) HS ?_
  simp only [Act.put, List.setIfInBounds_toArray, List.set_cons_zero, List.set_cons_succ]
  refine wpAnyH_ready (rs := [4, 10]) (by kernel_rfl) (by simp) ?_
  refine AllReadyH.cons rfl (fun K hK => ?_) ?_
  · clear HS
    go_simp
    refine hK.out _ _ (SV.out) (fun HS => ?_)
    clear hK
    try simp only [Act.put, List.setIfInBounds_toArray, List.set_cons_zero, List.set_cons_succ]
    refine wpAnyH_ready (rs := [10]) (by kernel_rfl) (by simp) ?_
    refine AllReadyH.cons rfl (fun K hK => ?_) AllReadyH.nil
    clear HS
    refine step_value rfl _ _ (exec_list_wr _ rfl ⟨S, s.toNat⟩ rfl) ?_
    refine hK.out _ _ (SA.out) (fun HS => ?_)
    clear hK
    try simp only [Act.put, List.setIfInBounds_toArray, List.set_cons_zero, List.set_cons_succ]
    refine wpAnyH_ready (rs := [11]) (by kernel_rfl) (by simp) ?_
    refine AllReadyH.cons rfl (fun K hK => ?_) AllReadyH.nil
    clear HS
    refine step_append_foot _ rfl (.tmp 28) (.tmp 34) _ (by rfl) w0.heap.size 76 i0 _ 65 72 Try.underlying52 hi hz0 hz1 hz2 rfl (by decide) (.slice A M c') M (d.waits.flatMap wrC) (by rfl) HOA.out (V.heap.size + 1) _ 1 (wrC ⟨S, s.toNat⟩) (by rfl) (Row.blk HN1.out rfl (by omega) (by simp [maxLen])) (by rw [wrC_len]) (wrC_one _) (by unfold maxLen; omega) (by omega) (by rw [sz1]; omega) ?_
    intro v7 w7 h7 hg7 hv7
    have HG := Lib.hid (dI_grown (x := ⟨S, s.toNat⟩) HS4.out (by rw [HWS.out]; exact h7) (by rw [HWS.out, HM.out]) hg7 hv7)
    have c7 := HG.out.1.1.cell 1
    have f7 := HG.out.1.1.free 1
    simp only [dkC, List.getElem?_cons_zero, List.getElem?_cons_succ] at c7
    have S7 : Hid (w7.rangeAt g2 o2 (secC S)) := by
      obtain ⟨a, ha⟩ := HG.out.1.2
      exact row_range (HK.out.now ha)
    have S8 := Lib.hid (row_range (HK.out.now HG.out.2))
    obtain ⟨A7, c7', rfl, _, _⟩ := (Row.of_own h7).slice
    clear h7 hg7 hv7
    refine hK.out _ _ (S7.out) (fun HS => ?_)
    clear hK
    try simp only [Act.put, List.setIfInBounds_toArray, List.set_cons_zero, List.set_cons_succ]
    refine handTake 12 (some 36) ?_ rfl rfl (by kernel_rfl) (by kernel_rfl) (by kernel_rfl) (fun _ _ _ h => h) (by rfl) ?_ HS ?_
    rotate_left
    · (intro u hu; (try dsimp only at hu); go_simp; try with_reducible rfl)
    simp only [Act.put, List.setIfInBounds_toArray, List.set_cons_zero, List.set_cons_succ]
    refine handTake 13 (some 37) ?_ rfl rfl (by kernel_rfl) (by kernel_rfl) (by kernel_rfl) (fun _ _ _ h => h) (by rfl) ?_ HS ?_
    rotate_left
    · (intro u hu; (try dsimp only at hu); go_simp; try with_reducible rfl)
    simp only [Act.put, List.setIfInBounds_toArray, List.set_cons_zero, List.set_cons_succ]
    refine wpAnyH_ready (rs := [14]) (by kernel_rfl) (by simp) ?_
    refine AllReadyH.cons rfl (fun K hK => ?_) AllReadyH.nil
    clear HS
    go_simp
    refine hK.out _ _ (S8.out) (fun HS => ?_)
    clear hK
    try simp only [Act.put, List.setIfInBounds_toArray, List.set_cons_zero, List.set_cons_succ]
    refine wpAnyH_done (by kernel_rfl) ?_ _
    clear HS
    go_wp2_with fail
    go_ret
    refine ⟨rfl, .slice A7 (M + 1) c7', ?_⟩
    exact HG.out.2
  refine AllReadyH.cons rfl (fun K hK => ?_) ?_
  · clear HS
    refine step_value rfl _ _ (exec_list_wr _ rfl ⟨S, s.toNat⟩ rfl) ?_
    refine hK.out _ _ (SA.out) (fun HS => ?_)
    clear hK
    try simp only [Act.put, List.setIfInBounds_toArray, List.set_cons_zero, List.set_cons_succ]
    refine wpAnyH_ready (rs := [4]) (by kernel_rfl) (by simp) ?_
    refine AllReadyH.cons rfl (fun K hK => ?_) AllReadyH.nil
    clear HS
    go_simp
    refine hK.out _ _ (SA.out) (fun HS => ?_)
    clear hK
    try simp only [Act.put, List.setIfInBounds_toArray, List.set_cons_zero, List.set_cons_succ]
    refine wpAnyH_ready (rs := [11]) (by kernel_rfl) (by simp) ?_
    refine AllReadyH.cons rfl (fun K hK => ?_) AllReadyH.nil
    clear HS
    refine step_append_foot _ rfl (.tmp 28) (.tmp 34) _ (by rfl) w0.heap.size 76 i0 _ 65 72 Try.underlying52 hi hz0 hz1 hz2 rfl (by decide) (.slice A M c') M (d.waits.flatMap wrC) (by rfl) HOA.out (V.heap.size + 1) _ 1 (wrC ⟨S, s.toNat⟩) (by rfl) (Row.blk HN1.out rfl (by omega) (by simp [maxLen])) (by rw [wrC_len]) (wrC_one _) (by unfold maxLen; omega) (by omega) (by rw [sz1]; omega) ?_
    intro v7 w7 h7 hg7 hv7
    have HG := Lib.hid (dI_grown (x := ⟨S, s.toNat⟩) HS4.out (by rw [HWS.out]; exact h7) (by rw [HWS.out, HM.out]) hg7 hv7)
    have c7 := HG.out.1.1.cell 1
    have f7 := HG.out.1.1.free 1
    simp only [dkC, List.getElem?_cons_zero, List.getElem?_cons_succ] at c7
    have S7 : Hid (w7.rangeAt g2 o2 (secC S)) := by
      obtain ⟨a, ha⟩ := HG.out.1.2
      exact row_range (HK.out.now ha)
    have S8 := Lib.hid (row_range (HK.out.now HG.out.2))
    obtain ⟨A7, c7', rfl, _, _⟩ := (Row.of_own h7).slice
    clear h7 hg7 hv7
    refine hK.out _ _ (S7.out) (fun HS => ?_)
    clear hK
    try simp only [Act.put, List.setIfInBounds_toArray, List.set_cons_zero, List.set_cons_succ]
    refine handTake 12 (some 36) ?_ rfl rfl (by kernel_rfl) (by kernel_rfl) (by kernel_rfl) (fun _ _ _ h => h) (by rfl) ?_ HS ?_
    rotate_left
    · (intro u hu; (try dsimp only at hu); go_simp; try with_reducible rfl)
    simp only [Act.put, List.setIfInBounds_toArray, List.set_cons_zero, List.set_cons_succ]
    refine handTake 13 (some 37) ?_ rfl rfl (by kernel_rfl) (by kernel_rfl) (by kernel_rfl) (fun _ _ _ h => h) (by rfl) ?_ HS ?_
    rotate_left
    · (intro u hu; (try dsimp only at hu); go_simp; try with_reducible rfl)
    simp only [Act.put, List.setIfInBounds_toArray, List.set_cons_zero, List.set_cons_succ]
    refine wpAnyH_ready (rs := [14]) (by kernel_rfl) (by simp) ?_
    refine AllReadyH.cons rfl (fun K hK => ?_) AllReadyH.nil
    clear HS
    go_simp
    refine hK.out _ _ (S8.out) (fun HS => ?_)
    clear hK
    try simp only [Act.put, List.setIfInBounds_toArray, List.set_cons_zero, List.set_cons_succ]
    refine wpAnyH_done (by kernel_rfl) ?_ _
    clear HS
    go_wp2_with fail
    go_ret
    refine ⟨rfl, .slice A7 (M + 1) c7', ?_⟩
    exact HG.out.2
  exact AllReadyH.nil
set_option maxRecDepth 100000 in
set_option maxHeartbeats 4000000 in
theorem write_is (d : Dk) (ho : Ok d) (s : Int) (bs : List Int) (b : Nat) (pv wv bv : Value) {w0 : World} {l : List It} (w : World) (hS : Sep w0 (dI w0.heap.size b pv wv d ++ l) w) (hK : Stays w0 l bv bs.length (u8s bs)) (hfew : d.waits.length ≤ 1000000000) :
    Calls Try.prog 12 #[.pointer (some ⟨b, 0, none⟩), .int .i64 s, bv] w fun e w' => e = .returned (.int .i64 (writeE d s bs)) ∧ ∃ wv', Sep w0 (dI w0.heap.size b pv wv' (writeD d s bs) ++ l) w' := by
  obtain ⟨ka, kc, rfl, _, _⟩ := (hK.now hS).slice
  have hbd := (hK.now hS).bound
  have hS1 := hS.fresh (.cells #[.int .i64 s] 3)
  have T := Lib.hid (live_is [s] d ho b (w.heap.size + 1) pv wv _ _ hS1 (Row.blk (Whole.new w 3 [.int .i64 s]) rfl (by omega) (by simp [maxLen])))
  have P := Lib.hid (spend_is d ho b pv wv _ hS1)
  have HS := Lib.hid hS1
  have HS0 := Lib.hid hS
  have HK := Lib.hid hK
  have HO := Lib.hid ho
  have HFEW := Lib.hid hfew
  clear hS hS1 ho hK hfew
  rw [live_one] at T
  obtain ⟨N, hN⟩ : ∃ N, bs.length = N := ⟨_, rfl⟩
  rw [hN] at HK hbd ⊢
  have HN := Lib.hid hN
  clear hN
  cases hup : d.up
  · have hE : writeE d s bs = 5 := by unfold writeE; rw [hup]; rfl
    have hD : Hid (writeD d s bs = d) := by show writeD d s bs = d; unfold writeD; rw [hup]; rfl
    rw [hE]
    rw [hup] at T
    simp only [Bool.false_eq_true, if_false] at T
    clear hE hup
    go_enter Try.func12, Try.ntmps12
    go_wp2_with fail
    refine T.out.mono ?_
    rintro e u ⟨rfl, rfl⟩
    go_wp2_with fail
    go_ret
    exact ⟨rfl, _, by rw [hD.out]; exact HS.out⟩
  cases hin : inn d s
  · have hE : writeE d s bs = 2 := by unfold writeE; rw [hup, hin]; rfl
    have hD : Hid (writeD d s bs = d) := by show writeD d s bs = d; unfold writeD; rw [hup, hin]; rfl
    rw [hE]
    rw [hup, hin] at T
    simp only [Bool.false_eq_true, if_false, if_true] at T
    clear hE hup hin
    go_enter Try.func12, Try.ntmps12
    go_wp2_with fail
    refine T.out.mono ?_
    rintro e u ⟨rfl, rfl⟩
    go_wp2_with fail
    go_ret
    exact ⟨rfl, _, by rw [hD.out]; exact HS.out⟩
  rw [hup, hin] at T
  simp only [if_true] at T
  by_cases hl : N = 64
  · subst hl
    by_cases h0 : d.left = 0
    · have hE : writeE d s bs = 5 := by unfold writeE spendE; rw [hup, hin]; simp [h0, HN.out]
      have hD : Hid (writeD d s bs = spendD d) := by show writeD d s bs = _; unfold writeD; rw [hup, hin]; simp [h0, HN.out]
      have hP : spendE d = 5 := by unfold spendE; simp [h0]
      rw [hE]
      rw [hP] at P
      clear hE hup hP h0 hin
      go_enter Try.func12, Try.ntmps12
      go_wp2_with fail
      refine T.out.mono ?_
      rintro e u ⟨rfl, rfl⟩
      go_wp2_with fail
      refine P.out.mono ?_
      rintro e u ⟨rfl, hs⟩
      have HS2 := Lib.hid hs
      clear hs
      go_wp2_with fail
      go_ret
      exact ⟨rfl, _, by rw [hD.out]; exact HS2.out⟩
    have G := write_done d HO.out s ⟨bs, HN.out⟩ b pv wv (.slice ka 64 kc) (w := w) HS0.out HK.out HFEW.out hup hin h0
    have hE : writeE d s bs = 0 := by unfold writeE spendE; rw [hup, hin]; simp [h0, HN.out]
    have hD : writeD d s bs = { spendD d with waits := (spendD d).waits ++ [⟨⟨bs, HN.out⟩, s.toNat⟩] } := by
      unfold writeD
      rw [hup, hin, spend_waits, if_pos rfl, if_pos rfl, dif_pos HN.out, if_neg h0]
    rw [hE, hD]
    exact G
  · have hE : writeE d s bs = 2 := by unfold writeE; rw [hup, hin]; simp [HN.out, hl]
    have hD : Hid (writeD d s bs = d) := by show writeD d s bs = d; unfold writeD; rw [hup, hin]; simp [HN.out, hl]
    have hl' : ((N : Int) == 64) = false := by rw [beq_eq_false_iff_ne]; omega
    rw [hE]
    clear hE hup hin hl
    go_enter Try.func12, Try.ntmps12
    go_wp2_with fail
    refine T.out.mono ?_
    rintro e u ⟨rfl, rfl⟩
    go_wp2_with fail
    go_ret
    exact ⟨rfl, _, by rw [hD.out]; exact HS.out⟩
end Di
end Go.Proofs.Ytnjejffbcgchlaa
