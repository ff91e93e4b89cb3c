/- QueueOnce: an arm of the round. -/
import Derived.Test.YtinnpeonokdljaaQueueOnceA
set_option linter.unusedSimpArgs false
set_option linter.unusedVariables false
namespace Go.Proofs.Ytinnpeonokdljaa
open Go.RowKit
namespace Qu
open Qm
attribute [local go_sem ↓] eql_rq neq_rq
set_option maxRecDepth 100000 in
set_option maxHeartbeats 64000000 in
theorem qo_arm1 : qoSplit.p1 := by
  intro n own l v w c hbd N q HMd hNu hN0 hn ua u0 HB0 g u1 wr k L M hk Aw
  intro cw hlt o2 ak an ai am aq ok oa ob oc hk0 hk1 HG hlM HMM bb0 W HS b2 i0 hi hz0
  intro hz1 hz2 b3 b4 b5 b6 b7 b8 b0 b1 hbl u6 u11 u12 u13 u14 u15 u16 u17 u18 u19 u20 u21 u22
  intro u46 u47 u48 u49 u50 u51 u52 u53 u54 u55 u56 u57 u58 u59 u60 u61 u62 u63 u64 u65 u66 u67 u68 u69
  intro u70 u71 u72 u73 u74 u75 u76 u77 u78 u79 u80 u81 u82 u83 u84 u85 u86 u87 u88 u89 u90 u91 u92 u93
  intro u94 u95 u96 u97 u98 u99 u100 u101 u102 u103 u104 u105 u106 u107 u108 u109 u110 u111 u112 u113 u114 u115 u116 u117
  intro u118 u119 u120 u121 u122 u123 u124 u125 u126 u127 u128 u129 u130 u131 u132 u133 u134 u135 u136 u137 u138 u139 u140 u141
  intro u142 u143 u144 u145 u146 u147 u148 u149 u150 u151 u152 u153 u154 u155 u156 u157 u158 u159 u160 u161 u162 u163 u164 u165
  intro u166 u167 u168 u169 u170 u171 u172 u173 u174 u175 u176 u177 u178 u179 u180 u181 u182 u183 u184 u185 u186 u187 u188 u189
  intro u190 u191 u192 u193 u194 u195 u196 u197 u198 u199 u200 u201 u202 u203 u204 u205 u206 u207 u208 u209 u210 u211 u212 u213
  intro u214 u215 u216 u217 u218 u219 u220 u221 u222 u223 u224 u225 u226 u227 u228 u229 u230 u231 u232 u233 u234 u235 u236 u237
  intro u238 u239 u240 u241 u242 u243 u244 u245 u246 u247 u248 u249 u250 u251 u252 u253 u254 u255 u256 zz zz zz zz zz
  intro zz HR hb2 zz zz zz zz zz zz zz zz zz
  go_wp2_with fail
  refine (write_sep HS.out hn HG.out.ok am aq ok oa ob oc).mono ?_
  rintro e u1 h
  have hGp := HG.out.push (own := q) (right := !readsB ⟨ok, oa, ob, oc⟩) (r := ⟨am, aq, ⟨ok, oa, ob, oc⟩⟩) (nn := 0) (ix := 0) (fun h => write_kind1 h)
  rcases putR_cases q (!readsB ⟨ok, oa, ob, oc⟩) L ⟨am, aq, ⟨ok, oa, ob, oc⟩⟩ 0 0 with ⟨e, hP⟩ | ⟨hP, hri, _⟩
  · rw [hP] at hGp
    obtain ⟨he, _, v1, h1⟩ := h _ hP.symm
    dsimp only at he h1
    subst he
    have HS1 := Lib.hid h1
    clear h h1 hP hGp HS b0 b1 b2 b3 b4 b5 b6 b7 b8 hbl
    go_wp2_with fail
    go_meet
    refine ⟨L, M, fun _ => false, [], v1, 0, HG.out, HMM.out, (took_no _).symm, ?_⟩
    rw [left_no]
    exact ((show Sep w (qI g N q L v1 ++ ([rB w.heap.size (.slice Aw M.length cw) M] ++ [])) _ from HS1.out.sub (List.Sublist.append (List.Sublist.refl _) (List.Sublist.append (List.Sublist.refl _) (List.nil_sublist _)))).empty 0 25 6).perm (to_end _ _ _)
  · rw [hP] at hGp
    obtain ⟨he, _, v1, h1⟩ := h _ hP.symm
    dsimp only at he h1 hGp
    subst he
    have HS1 := Lib.hid h1
    have HG1 := Lib.hid hGp
    have HRI := Lib.hid hri
    clear h h1 hP hGp hri HS b0 b1 b2 b3 b4 b5 b6 b7 b8 hbl
    have hbx : Whole u1 bb0 28 [.int .u8 (ak : Nat), .int .i64 am, .int .i64 aq, .int .u8 (ok : Nat), .string oa, .string ob, .string oc, .int .i64 an, .int .i64 ai] := HS1.out.right.right.head
    have b0 := hbx.cell 0; have b1 := hbx.cell 1; have b2 := hbx.cell 2; have b3 := hbx.cell 3; have b4 := hbx.cell 4; have b5 := hbx.cell 5; have b6 := hbx.cell 6; have b7 := hbx.cell 7; have b8 := hbx.cell 8
    simp only [List.getElem?_cons_zero, List.getElem?_cons_succ] at b0 b1 b2 b3 b4 b5 b6 b7 b8
    have hbl := hbx.lt
    clear hbx
    have HX6 : Hid (∀ x ∈ ([.int .i64 am, .int .i64 aq, .int .u8 (ok : Nat), .string oa, .string ob, .string oc] : List Value), x.oneCell' = true) := by
      intro x hx
      simp only [List.mem_cons, List.not_mem_nil, or_false] at hx
      rcases hx with rfl | rfl | rfl | rfl | rfl | rfl <;> rfl
    have HSA := Lib.hid ((HS1.out.rot3).fresh (.cells #[.int .i64 am, .int .i64 aq, .int .u8 (ok : Nat), .string oa, .string ob, .string oc] 25))
    have HRA := Lib.hid (show World.ownsRow _ w.heap.size 25 6 (.slice Aw M.length cw) M.length (M.flatMap rqC) from HSA.out.head)
    have hBw := HS1.out.size
    have HAP : Hid (∀ i, (Value.slice Aw M.length cw).ownBlock = some i → i = bb0 → False) := fun i hi e => by subst e; exact (List.pairwise_append.1 HS1.out.right.apart).2.2 _ List.mem_cons_self _ List.mem_cons_self _ hi rfl
    go_upto_region 22 with (at_builtin
                            refine wpList_append_foot _ rfl (.tmp 74) (.tmp 77) _ rfl w.heap.size 25 i0 _ 6 72 Try.underlying41 hi hz0 hz1 hz2 rfl (by decide) _ M.length _ rfl HRA.out (u1.heap.size + 1) _ 1 [.int .i64 am, .int .i64 aq, .int .u8 (ok : Nat), .string oa, .string ob, .string oc] rfl (Row.blk (Whole.new u1 25 [.int .i64 am, .int .i64 aq, .int .u8 (ok : Nat), .string oa, .string ob, .string oc]) rfl (by omega) (by unfold maxLen; omega)) rfl HX6.out (by unfold maxLen; omega) (by omega) (by simp; omega) ?_
                            intro v7 w7 hown7 hg7 hv7
                            have HS7 := Lib.hid (Sep.grown HSA.out hown7 hg7 hv7)
                            have hb7 := (Foot.of_grown hg7).whole ((show Whole u1 bb0 28 [.int .u8 (ak : Nat), .int .i64 am, .int .i64 aq, .int .u8 (ok : Nat), .string oa, .string ob, .string oc, .int .i64 an, .int .i64 ai] from HS1.out.right.right.head).alloc (.cells #[.int .i64 am, .int .i64 aq, .int .u8 (ok : Nat), .string oa, .string ob, .string oc] 25)) (fun e => HAP.out _ e rfl)
                            have d3 := hb7.cell 3
                            simp only [List.getElem?_cons_zero, List.getElem?_cons_succ] at d3
                            clear hown7 hg7 hv7 hb7)
    have hri := HRI.out
    have hkd : ((ok : Int) == 1) = false := by unfold readsB at hri; simp at hri; simp; omega
    clear hri
    go_wp2_with fail
    have h7 : Sep w ([rB w.heap.size v7 (M ++ [(⟨am, aq, ⟨ok, oa, ob, oc⟩⟩ : Rq)])] ++ ([.box bb0 28 [.int .u8 (ak : Nat), .int .i64 am, .int .i64 aq, .int .u8 (ok : Nat), .string oa, .string ob, .string oc, .int .i64 an, .int .i64 ai]] ++ qI g N q (L ++ [(⟨⟨am, aq, ⟨ok, oa, ob, oc⟩⟩, 0, 0, addN 0 q⟩ : Wt)]) v1)) w7 := by
      unfold rB
      rw [List.length_append, List.flatMap_append]
      exact HS7.out
    have h8 := h7.rot3.rot3
    have HS8 := Lib.hid (show Sep w (qI g N q (L ++ [(⟨⟨am, aq, ⟨ok, oa, ob, oc⟩⟩, 0, 0, addN 0 q⟩ : Wt)]) v1 ++ ([rB w.heap.size v7 (M ++ [(⟨am, aq, ⟨ok, oa, ob, oc⟩⟩ : Rq)])] ++ [])) _ from h8.sub (List.Sublist.append (List.Sublist.refl _) (List.Sublist.append (List.Sublist.refl _) (List.nil_sublist _))))
    clear h7 h8
    go_meet
    refine ⟨(L ++ [(⟨⟨am, aq, ⟨ok, oa, ob, oc⟩⟩, 0, 0, addN 0 q⟩ : Wt)]), (M ++ [(⟨am, aq, ⟨ok, oa, ob, oc⟩⟩ : Rq)]), fun _ => false, [], v1, 0, HG1.out, (by rw [HMM.out, List.map_append]; rfl), (took_no _).symm, ?_⟩
    rw [left_no]
    exact (HS8.out.empty 0 25 6).perm (to_end _ _ _)

end Qu
end Go.Proofs.Ytinnpeonokdljaa
