/- QueueOnce: an arm of the round. -/
import Derived.Test.YtinnpeonokdljaaQueueOnceA
set_option linter.unusedSimpArgs false
set_option linter.unusedVariables false
namespace Go.Proofs.Ytinnpeonokdljaa
open Go.RowKit
namespace Qu
open Qm
attribute [local go_sem ↓] eql_rq neq_rq
set_option maxRecDepth 100000 in
set_option maxHeartbeats 64000000 in
theorem qo_arm4 : qoSplit.p4 := by
  intro n own l v w c hbd N q HMd hNu hN0 hn ua u0 HB0 g u1 wr k L M hk Aw
  intro cw hlt o2 ak an ai am aq ok oa ob oc hk0 hk1 HG hlM HMM bb0 W HS b2 i0 hi hz0
  intro hz1 hz2 b3 b4 b5 b6 b7 b8 b0 b1 hbl u6 u11 u12 u13 u14 u15 u16 u17 u18 u19 u20 u21 u22
  intro u46 u47 u48 u49 u50 u51 u52 u53 u54 u55 u56 u57 u58 u59 u60 u61 u62 u63 u64 u65 u66 u67 u68 u69
  intro u70 u71 u72 u73 u74 u75 u76 u77 u78 u79 u80 u81 u82 u83 u84 u85 u86 u87 u88 u89 u90 u91 u92 u93
  intro u94 u95 u96 u97 u98 u99 u100 u101 u102 u103 u104 u105 u106 u107 u108 u109 u110 u111 u112 u113 u114 u115 u116 u117
  intro u118 u119 u120 u121 u122 u123 u124 u125 u126 u127 u128 u129 u130 u131 u132 u133 u134 u135 u136 u137 u138 u139 u140 u141
  intro u142 u143 u144 u145 u146 u147 u148 u149 u150 u151 u152 u153 u154 u155 u156 u157 u158 u159 u160 u161 u162 u163 u164 u165
  intro u166 u167 u168 u169 u170 u171 u172 u173 u174 u175 u176 u177 u178 u179 u180 u181 u182 u183 u184 u185 u186 u187 u188 u189
  intro u190 u191 u192 u193 u194 u195 u196 u197 u198 u199 u200 u201 u202 u203 u204 u205 u206 u207 u208 u209 u210 u211 u212 u213
  intro u214 u215 u216 u217 u218 u219 u220 u221 u222 u223 u224 u225 u226 u227 u228 u229 u230 u231 u232 u233 u234 u235 u236 u237
  intro u238 u239 u240 u241 u242 u243 u244 u245 u246 u247 u248 u249 u250 u251 u252 u253 u254 u255 u256 zz zz zz zz zz
  intro zz HR hb2 zz zz zz zz zz zz zz zz zz
  go_wp2_with fail
  refine (answer_sep HS.out hn HG.out.ok an aq).mono ?_
  rintro e u1 ⟨rfl, v1, h1⟩
  have HS1 := Lib.hid h1
  clear h1 HS b0 b1 b2 b3 b4 b5 b6 b7 b8 hbl
  go_wp2_with fail
  go_meet
  refine ⟨(ansR N an aq L).2, M, fun _ => false, [], v1, 0, (HG.out.ans N an aq), (by rw [ans_r]; exact HMM.out), (took_no _).symm, ?_⟩
  rw [left_no]
  exact ((show Sep w (qI g N q (ansR N an aq L).2 v1 ++ ([rB w.heap.size (.slice Aw M.length cw) M] ++ [])) _ from HS1.out.sub (List.Sublist.append (List.Sublist.refl _) (List.Sublist.append (List.Sublist.refl _) (List.nil_sublist _)))).empty 0 25 6).perm (to_end _ _ _)
set_option maxRecDepth 100000 in
set_option maxHeartbeats 64000000 in
theorem qo_arm5 : qoSplit.p5 := by
  intro n own l v w c hbd N q HMd hNu hN0 hn ua u0 HB0 g u1 wr k L M hk Aw
  intro cw hlt o2 ak an ai am aq ok oa ob oc hk0 hk1 HG hlM HMM bb0 W HS b2 i0 hi hz0
  intro hz1 hz2 b3 b4 b5 b6 b7 b8 b0 b1 hbl u6 u11 u12 u13 u14 u15 u16 u17 u18 u19 u20 u21 u22
  intro u46 u47 u48 u49 u50 u51 u52 u53 u54 u55 u56 u57 u58 u59 u60 u61 u62 u63 u64 u65 u66 u67 u68 u69
  intro u70 u71 u72 u73 u74 u75 u76 u77 u78 u79 u80 u81 u82 u83 u84 u85 u86 u87 u88 u89 u90 u91 u92 u93
  intro u94 u95 u96 u97 u98 u99 u100 u101 u102 u103 u104 u105 u106 u107 u108 u109 u110 u111 u112 u113 u114 u115 u116 u117
  intro u118 u119 u120 u121 u122 u123 u124 u125 u126 u127 u128 u129 u130 u131 u132 u133 u134 u135 u136 u137 u138 u139 u140 u141
  intro u142 u143 u144 u145 u146 u147 u148 u149 u150 u151 u152 u153 u154 u155 u156 u157 u158 u159 u160 u161 u162 u163 u164 u165
  intro u166 u167 u168 u169 u170 u171 u172 u173 u174 u175 u176 u177 u178 u179 u180 u181 u182 u183 u184 u185 u186 u187 u188 u189
  intro u190 u191 u192 u193 u194 u195 u196 u197 u198 u199 u200 u201 u202 u203 u204 u205 u206 u207 u208 u209 u210 u211 u212 u213
  intro u214 u215 u216 u217 u218 u219 u220 u221 u222 u223 u224 u225 u226 u227 u228 u229 u230 u231 u232 u233 u234 u235 u236 u237
  intro u238 u239 u240 u241 u242 u243 u244 u245 u246 u247 u248 u249 u250 u251 u252 u253 u254 u255 u256 zz zz zz zz zz
  intro zz HR hb2 zz zz zz zz zz zz zz zz zz
  go_wp2_with fail
  refine (answer_sep HS.out hn HG.out.ok an aq).mono ?_
  rintro e u1 ⟨rfl, v1, h1⟩
  have HS1 := Lib.hid h1
  clear h1 HS b0 b1 b2 b3 b4 b5 b6 b7 b8 hbl
  go_wp2_with fail
  go_meet
  refine ⟨(ansR N an aq L).2, M, fun _ => false, [], v1, 0, (HG.out.ans N an aq), (by rw [ans_r]; exact HMM.out), (took_no _).symm, ?_⟩
  rw [left_no]
  exact ((show Sep w (qI g N q (ansR N an aq L).2 v1 ++ ([rB w.heap.size (.slice Aw M.length cw) M] ++ [])) _ from HS1.out.sub (List.Sublist.append (List.Sublist.refl _) (List.Sublist.append (List.Sublist.refl _) (List.nil_sublist _)))).empty 0 25 6).perm (to_end _ _ _)
set_option maxRecDepth 100000 in
set_option maxHeartbeats 64000000 in
theorem qo_arm7 : qoSplit.p7 := by
  intro n own l v w c hbd N q HMd hNu hN0 hn ua u0 HB0 g u1 wr k L M hk Aw
  intro cw hlt o2 ak an ai am aq ok oa ob oc hk0 hk1 HG hlM HMM bb0 W HS b2 i0 hi hz0
  intro hz1 hz2 b3 b4 b5 b6 b7 b8 b0 b1 hbl u6 u11 u12 u13 u14 u15 u16 u17 u18 u19 u20 u21 u22
  intro u46 u47 u48 u49 u50 u51 u52 u53 u54 u55 u56 u57 u58 u59 u60 u61 u62 u63 u64 u65 u66 u67 u68 u69
  intro u70 u71 u72 u73 u74 u75 u76 u77 u78 u79 u80 u81 u82 u83 u84 u85 u86 u87 u88 u89 u90 u91 u92 u93
  intro u94 u95 u96 u97 u98 u99 u100 u101 u102 u103 u104 u105 u106 u107 u108 u109 u110 u111 u112 u113 u114 u115 u116 u117
  intro u118 u119 u120 u121 u122 u123 u124 u125 u126 u127 u128 u129 u130 u131 u132 u133 u134 u135 u136 u137 u138 u139 u140 u141
  intro u142 u143 u144 u145 u146 u147 u148 u149 u150 u151 u152 u153 u154 u155 u156 u157 u158 u159 u160 u161 u162 u163 u164 u165
  intro u166 u167 u168 u169 u170 u171 u172 u173 u174 u175 u176 u177 u178 u179 u180 u181 u182 u183 u184 u185 u186 u187 u188 u189
  intro u190 u191 u192 u193 u194 u195 u196 u197 u198 u199 u200 u201 u202 u203 u204 u205 u206 u207 u208 u209 u210 u211 u212 u213
  intro u214 u215 u216 u217 u218 u219 u220 u221 u222 u223 u224 u225 u226 u227 u228 u229 u230 u231 u232 u233 u234 u235 u236 u237
  intro u238 u239 u240 u241 u242 u243 u244 u245 u246 u247 u248 u249 u250 u251 u252 u253 u254 u255 u256 zz zz zz zz zz
  intro zz HR hb2 zz zz zz zz zz zz zz zz zz
  go_wp2_with fail
  refine (ready_sep HS.out hn HG.out.ok ai _ rfl _ rfl).mono ?_
  rintro e u1 ⟨A1, c1, v1, rfl, h1⟩
  have HS1 := Lib.hid (show Sep w (qI g N q (left (readyB N ai) L) v1 ++ ([rB w.heap.size (.slice Aw M.length cw) M] ++ [rB W.heap.size (.slice A1 (took (readyB N ai) L).length c1) (took (readyB N ai) L)])) u1 from h1.sub (List.Sublist.append (List.Sublist.refl _) (List.Sublist.append (List.sublist_append_left _ _) (List.Sublist.refl _))))
  clear h1 HS b0 b1 b2 b3 b4 b5 b6 b7 b8 hbl
  go_wp2_with fail
  go_meet
  exact ⟨L, M, readyB N ai, _, _, _, HG.out, HMM.out, rfl, HS1.out⟩

end Qu
end Go.Proofs.Ytinnpeonokdljaa
