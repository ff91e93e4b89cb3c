/- QueueOnce: an arm of the round. -/
import Derived.Test.YtinnpeonokdljaaQueueOnceA
set_option linter.unusedSimpArgs false
set_option linter.unusedVariables false
namespace Go.Proofs.Ytinnpeonokdljaa
open Go.RowKit
namespace Qu
open Qm
attribute [local go_sem ↓] eql_rq neq_rq
set_option maxRecDepth 100000 in
set_option maxHeartbeats 64000000 in
theorem qo_arm6 : qoSplit.p6 := by
  intro n own l v w c hbd N q HMd hNu hN0 hn ua u0 HB0 g u1 wr k L M hk Aw
  intro cw hlt o2 ak an ai am aq ok oa ob oc hk0 hk1 HG hlM HMM bb0 W HS b2 i0 hi hz0
  intro hz1 hz2 b3 b4 b5 b6 b7 b8 b0 b1 hbl u6 u11 u12 u13 u14 u15 u16 u17 u18 u19 u20 u21 u22
  intro u46 u47 u48 u49 u50 u51 u52 u53 u54 u55 u56 u57 u58 u59 u60 u61 u62 u63 u64 u65 u66 u67 u68 u69
  intro u70 u71 u72 u73 u74 u75 u76 u77 u78 u79 u80 u81 u82 u83 u84 u85 u86 u87 u88 u89 u90 u91 u92 u93
  intro u94 u95 u96 u97 u98 u99 u100 u101 u102 u103 u104 u105 u106 u107 u108 u109 u110 u111 u112 u113 u114 u115 u116 u117
  intro u118 u119 u120 u121 u122 u123 u124 u125 u126 u127 u128 u129 u130 u131 u132 u133 u134 u135 u136 u137 u138 u139 u140 u141
  intro u142 u143 u144 u145 u146 u147 u148 u149 u150 u151 u152 u153 u154 u155 u156 u157 u158 u159 u160 u161 u162 u163 u164 u165
  intro u166 u167 u168 u169 u170 u171 u172 u173 u174 u175 u176 u177 u178 u179 u180 u181 u182 u183 u184 u185 u186 u187 u188 u189
  intro u190 u191 u192 u193 u194 u195 u196 u197 u198 u199 u200 u201 u202 u203 u204 u205 u206 u207 u208 u209 u210 u211 u212 u213
  intro u214 u215 u216 u217 u218 u219 u220 u221 u222 u223 u224 u225 u226 u227 u228 u229 u230 u231 u232 u233 u234 u235 u236 u237
  intro u238 u239 u240 u241 u242 u243 u244 u245 u246 u247 u248 u249 u250 u251 u252 u253 u254 u255 u256 zz zz zz zz zz
  intro zz HR hb2 zz zz zz zz zz zz zz zz zz
  go_upto_if 137 with fail
  by_cases h77 : an = 77
  · have h77a : (an == 77) = true := by simp [h77]
    clear h77
    go_wp2_with fail
    refine (clear_sep HS.out hn HG.out.ok M HMM.out.symm M.length rfl).mono ?_
    rintro e u1 ⟨A1, c1, v1, rfl, h1⟩
    have HS1 := Lib.hid (show Sep w (qI g N q [] v1 ++ ([rB w.heap.size (.slice Aw M.length cw) M] ++ [rB W.heap.size (.slice A1 M.length c1) M])) u1 from h1.sub (List.Sublist.append (List.Sublist.refl _) (List.Sublist.append (List.sublist_append_left _ _) (List.Sublist.refl _))))
    clear h1 HS b0 b1 b2 b3 b4 b5 b6 b7 b8 hbl
    go_wp2_with fail
    go_meet
    exact ⟨L, M, fun _ => true, M, _, _, HG.out, HMM.out, by rw [took_yes]; exact HMM.out, by rw [left_yes]; exact HS1.out⟩
  · have h77b : (an == 77) = false := by simp [h77]
    clear h77
    go_wp2_with fail
    cases hy : L.any (doneB am aq)
    · refine (done_sep HS.out hn HG.out.ok am aq false hy).mono ?_
      rintro e u1 ⟨rfl, v1, h1⟩
      have HS1 := Lib.hid (show Sep w (qI g N q (left (doneB am aq) L) v1 ++ ([rB w.heap.size (.slice Aw M.length cw) M] ++ [])) u1 from h1.sub (List.Sublist.append (List.Sublist.refl _) (List.Sublist.append (List.Sublist.refl _) (List.nil_sublist _))))
      have HY := Lib.hid hy
      clear h1 HS hy b0 b1 b2 b3 b4 b5 b6 b7 b8 hbl
      go_wp2_with fail
      go_meet
      exact ⟨L, M, doneB am aq, [], _, 0, HG.out, HMM.out, (took_none HY.out).symm, (HS1.out.empty 0 25 6).perm (to_end _ _ _)⟩
    · refine (done_sep HS.out hn HG.out.ok am aq true hy).mono ?_
      rintro e u1 ⟨rfl, v1, h1⟩
      have HS1 := Lib.hid (show Sep w (rB w.heap.size (.slice none 0 0) [] :: (qI g N q (left (doneB am aq) L) v1 ++ ([rB w.heap.size (.slice Aw M.length cw) M] ++ [.box bb0 28 [.int .u8 (ak : Nat), .int .i64 am, .int .i64 aq, .int .u8 (ok : Nat), .string oa, .string ob, .string oc, .int .i64 an, .int .i64 ai]]))) u1 from h1.empty w.heap.size 25 6)
      have HY := Lib.hid hy
      clear h1 HS hy b0 b1 b2 b3 b4 b5 b6 b7 b8 hbl
      go_wp2_with fail
      go_loopw [12, 17] (fun vg iv wr2 => ∃ (j : Nat) (G : List Rq), j ≤ M.length ∧ iv = .int .i64 j ∧ G = (M.take j).filter (goneF am aq) ∧ G.length ≤ j ∧ Sep w (rB w.heap.size vg G :: (qI g N q (left (doneB am aq) L) v1 ++ ([rB w.heap.size (.slice Aw M.length cw) M] ++ [.box bb0 28 [.int .u8 (ak : Nat), .int .i64 am, .int .i64 aq, .int .u8 (ok : Nat), .string oa, .string ob, .string oc, .int .i64 an, .int .i64 ai]]))) wr2) (fun _ iv _ => M.length - (intOf iv).toNat)
      case atStart => exact ⟨0, [], Nat.zero_le _, rfl, by simp, Nat.le_refl _, HS1.out⟩
      case round =>
        obtain ⟨j, G, hj, rfl, hGe, hGj, hs⟩ := hrel
        obtain ⟨Ag, cg, hvg⟩ := own_slice' (show World.ownsRow wr _ _ _ _ _ _ from hs.head)
        subst hvg
        have HS2 := Lib.hid hs
        have HGE := Lib.hid hGe
        clear hs hGe HS1
        by_cases hlt2 : j < M.length
        · have hbx : Whole wr bb0 28 [.int .u8 (ak : Nat), .int .i64 am, .int .i64 aq, .int .u8 (ok : Nat), .string oa, .string ob, .string oc, .int .i64 an, .int .i64 ai] := HS2.out.tail.right.right.head
          have b0 := hbx.cell 0; have b1 := hbx.cell 1; have b2 := hbx.cell 2; have b3 := hbx.cell 3; have b4 := hbx.cell 4; have b5 := hbx.cell 5; have b6 := hbx.cell 6; have b7 := hbx.cell 7; have b8 := hbx.cell 8
          simp only [List.getElem?_cons_zero, List.getElem?_cons_succ] at b0 b1 b2 b3 b4 b5 b6 b7 b8
          have hbl := hbx.lt
          clear hbx
          have hj0 : (0 : Int) ≤ (j : Int) := by omega
          have hj1 : (j : Int) < (M.length : Int) := by omega
          obtain ⟨xb, xA, xh⟩ := row_elem (show World.ownsRow wr _ 25 6 (.slice _ M.length _) M.length (M.flatMap rqC) from HS2.out.tail.right.left.head) hlt2
          subst xA
          have x0 := xh 0 _ rfl
          have x1 := xh 1 _ rfl
          have x2 := xh 2 _ rfl
          have x3 := xh 3 _ rfl
          have x4 := xh 4 _ rfl
          have x5 := xh 5 _ rfl
          simp only [Nat.add_zero] at x0
          clear xh
          have HFG : Hid (∀ y, goneF am aq M[j] = y → (M.take (j + 1)).filter (goneF am aq) = G ++ (if y then [M[j]] else [])) := fun y hy => by rw [HGE.out]; exact filter_gone hlt2 hy
          generalize M[j] = x at HFG x0 x1 x2 x3 x4 x5
          obtain ⟨xm, xs, ⟨xk, xa, xb, xc⟩⟩ := x
          dsimp only at x0 x1 x2 x3 x4 x5
          by_cases e1 : xm = am
          · have e1s := e1.symm
            subst e1s
            by_cases e2 : xs = aq
            · have e2s := e2.symm
              subst e2s
              by_cases hk1 : xk = 1
              · subst hk1
                go_upto_region 41 with fail
                go_quiet (fail)
                go_wp2_with fail
                exact ⟨⟨j + 1, G, by omega, by go_num, by rw [HFG.out false (by unfold goneF; simp)]; simp, by omega, HS2.out.drewN nq⟩, by simp [intOf]; omega⟩
              · have hkf : ((xk : Int) == 1) = false := by simp; omega
                go_upto_region 41 with fail
                go_quiet (fail)
                obtain ⟨U, hU⟩ : ∃ U : World, U = wr.drewN nq := ⟨_, rfl⟩
                have HSU0 := HS2.out.drewN nq
                rw [← hU] at HSU0 ⊢
                have HSU := Lib.hid HSU0
                have hz5 : ∀ x, wr.cell? x = U.cell? x := fun x => by rw [hU]; rfl
                rw [hz5] at x0 x1 x2 x3 x4 x5
                clear hU HSU0 HS2 hz5 b0 b1 b2 b3 b4 b5 b6 b7 b8 hbl
                have HX6 : Hid (∀ x ∈ ([.int .i64 am, .int .i64 aq, .int .u8 (xk : Nat), .string xa, .string xb, .string xc] : List Value), x.oneCell' = true) := by
                  intro x hx
                  simp only [List.mem_cons, List.not_mem_nil, or_false] at hx
                  rcases hx with rfl | rfl | rfl | rfl | rfl | rfl <;> rfl
                have HSA := Lib.hid (HSU.out.fresh (.cells #[.int .i64 am, .int .i64 aq, .int .u8 (xk : Nat), .string xa, .string xb, .string xc] 25))
                have HRA := Lib.hid (show World.ownsRow _ w.heap.size 25 6 (.slice Ag G.length cg) G.length (G.flatMap rqC) from HSA.out.head)
                have hzz := HSA.out.size
                go_wp2_with (at_builtin
                             refine wpList_append_foot _ rfl (.tmp 183) (.tmp 188) _ rfl w.heap.size 25 i0 _ 6 72 Try.underlying41 hi hz0 hz1 hz2 rfl (by decide) _ G.length _ rfl HRA.out (U.heap.size + 1) _ 1 [.int .i64 am, .int .i64 aq, .int .u8 (xk : Nat), .string xa, .string xb, .string xc] rfl (Row.blk (Whole.new U 25 [.int .i64 am, .int .i64 aq, .int .u8 (xk : Nat), .string xa, .string xb, .string xc]) rfl (by omega) (by unfold maxLen; omega)) rfl HX6.out (by unfold maxLen; omega) (by omega) hzz ?_
                             intro v7 w7 hown7 hg7 hv7
                             have HS7 := Lib.hid (Sep.grown HSA.out hown7 hg7 hv7)
                             clear hown7 hg7 hv7)
                have h7 := HS7.out
                exact ⟨⟨j + 1, G ++ [(⟨am, aq, ⟨xk, xa, xb, xc⟩⟩ : Rq)], by omega, by go_num, by rw [HFG.out true (by unfold goneF; simp [hk1])]; rfl, by rw [List.length_append, List.length_singleton]; omega, by show Sep w (rB w.heap.size v7 (G ++ [(⟨am, aq, ⟨xk, xa, xb, xc⟩⟩ : Rq)]) :: _) w7; unfold rB; rw [List.length_append, List.flatMap_append]; exact h7⟩, by simp [intOf]; omega⟩
            · have e2f : (xs == aq) = false := by simp [e2]
              go_upto_region 41 with fail
              go_quiet (fail)
              go_wp2_with fail
              exact ⟨⟨j + 1, G, by omega, by go_num, by rw [HFG.out false (by unfold goneF; simp [e2])]; simp, by omega, HS2.out.drewN nq⟩, by simp [intOf]; omega⟩
          · have e1f : (xm == am) = false := by simp [e1]
            go_upto_region 41 with fail
            go_quiet (fail)
            go_wp2_with fail
            exact ⟨⟨j + 1, G, by omega, by go_num, by rw [HFG.out false (by unfold goneF; simp [e1])]; simp, by omega, HS2.out.drewN nq⟩, by simp [intOf]; omega⟩
        · have e : j = M.length := by omega
          subst e
          have hGt : G = took (doneB am aq) L := by rw [HGE.out, List.take_length, HMM.out]; exact gone_all HG.out.kinds am aq
          have hl1 : ((G.length : Int) == 1) = true := by rw [hGt, done_one HG.out HY.out]; rfl
          have HGt := Lib.hid hGt
          clear hGt
          go_wp2_with fail
          go_meet
          exact ⟨L, M, doneB am aq, G, _, _, HG.out, HMM.out, HGt.out, (show Sep w (rB w.heap.size (.slice Ag G.length cg) G :: (qI g N q (left (doneB am aq) L) v1 ++ ([rB w.heap.size (.slice Aw M.length cw) M] ++ []))) _ from HS2.out.sub (List.Sublist.cons_cons _ (List.Sublist.append (List.Sublist.refl _) (List.Sublist.append (List.Sublist.refl _) (List.nil_sublist _))))).perm (to_end _ _ _)⟩

end Qu
end Go.Proofs.Ytinnpeonokdljaa
