/- QueueOnce: what stands behind the switch. -/
import Derived.Test.YtinnpeonokdljaaQueueOnceA
set_option linter.unusedSimpArgs false
set_option linter.unusedVariables false
namespace Go.Proofs.Ytinnpeonokdljaa
open Go.RowKit
namespace Qu
open Qm
attribute [local go_sem ↓] eql_rq neq_rq
set_option maxRecDepth 100000 in
set_option maxHeartbeats 64000000 in
theorem qo_rest : qoSplit.r := by
  intro n own l v w c hbd N q HMd hNu hN0 hn ua u0 HB0 g u1 wr k L M hk Aw
  intro cw hlt b2 hb2 o2 HR ak an ai am aq ok oa ob oc hk0 hk1 HG hlM HMM bb0 W HS i0
  intro hi hz0 hz1 hz2 qq hq8 wc u6 u9 u11 u12 hcut u13 u14 u15 u16 u17 u18 u19 u20 u21 u22 u46 u47
  intro u48 u49 u50 u51 u52 u53 u54 u55 u56 u57 u58 u59 u60 u61 u62 u63 u64 u65 u66 u67 u68 u69 u70 u71
  intro u72 u73 u74 u75 u76 u77 u78 u79 u80 u81 u82 u83 u84 u85 u86 u87 u88 u89 u90 u91 u92 u93 u94 u95
  intro u96 u97 u98 u99 u100 u101 u102 u103 u104 u105 u106 u107 u108 u109 u110 u111 u112 u113 u114 u115 u116 u117 u118 u119
  intro u120 u121 u122 u123 u124 u125 u126 u127 u128 u129 u130 u131 u132 u133 u134 u135 u136 u137 u138 u139 u140 u141 u142 u143
  intro u144 u145 u146 u147 u148 u149 u150 u151 u152 u153 u154 u155 u156 u157 u158 u159 u160 u161 u162 u163 u164 u165 u166 u167
  intro u168 u169 u170 u171 u172 u173 u174 u175 u176 u177 u178 u179 u180 u181 u182 u183 u184 u185 u186 u187 u188 u189 u190 u191
  intro u192 u193 u194 u195 u196 u197 u198 u199 u200 u201 u202 u203 u204 u205 u206 u207 u208 u209 u210 u211 u212 u213 u214 u215
  intro u216 u217 u218 u219 u220 u221 u222 u223 u224 u225 u226 u227 u228 u229 u230 u231 u232 u233 u234 u235 u236 u237 u238 u239
  intro u240 u241 u242 u243 u244 u245 u246 u247 u248 u249 u250 u251 u252 u253 u254 u255 u256 zz zz zz zz zz zz zz
  intro zz zz zz zz zz zz zz zz zz zz zz zz zz zz zz zz zz zz zz zz zz zz zz zz
  intro zz zz zz zz zz zz zz zz zz zz zz zz zz zz zz zz zz zz zz zz zz zz zz zz
  intro zz zz zz zz zz zz zz zz zz zz zz zz zz zz zz zz zz zz zz zz zz zz zz zz
  intro zz zz zz zz zz zz zz zz zz zz zz zz zz zz zz zz zz zz zz zz zz zz zz zz
  intro zz zz zz zz zz zz zz zz zz zz zz zz zz zz zz zz zz zz zz zz zz zz zz zz
  intro zz zz zz zz zz zz zz zz zz zz zz zz zz zz zz zz zz zz zz zz zz zz zz zz
  intro zz zz zz zz zz zz zz zz zz zz zz zz zz zz zz zz zz zz zz zz zz zz zz zz
  intro zz zz zz zz zz zz zz zz zz zz zz zz zz zz zz zz zz zz zz zz zz zz zz zz
  intro zz zz zz zz zz zz zz zz zz zz zz zz zz zz zz zz zz zz zz zz zz zz zz zz
  intro zz zz zz zz zz
  obtain ⟨L1, M1, p, G, v1, B2, hG1, hM1, hGt, hs⟩ := hcut
  obtain ⟨A1, c1, hv1⟩ := own_slice' (show World.ownsRow wc _ _ _ _ _ _ from hs.right.left.head)
  subst hv1
  obtain ⟨A2, c2, hv2⟩ := own_slice' (show World.ownsRow wc _ _ _ _ _ _ from hs.right.right.head)
  subst hv2
  have HG1 := Lib.hid hG1
  have HM1 := Lib.hid hM1
  have HGT := Lib.hid hGt
  have hll : M1.length = L1.length := by rw [hM1, List.length_map]
  have h8 : M1.length ≤ 8 := by rw [hll]; exact hG1.ok.len
  have HLL := Lib.hid hll
  have hG8 : G.length ≤ 8 := by have := took_len p L1; rw [← hGt] at this; omega
  have HS2 := Lib.hid (hs.empty w.heap.size 25 6)
  clear hG1 hM1 hGt hll hs HG HS HMM
  go_wp2_with fail
  go_loopw [18, 19, 20] (fun lv av kv wr3 => ∃ (j a : Nat) (D : List Rq), j ≤ M1.length ∧ D.length ≤ j ∧ kv = .int .i64 j ∧ a = (took p (L1.take j)).length ∧ D = leftR p L1 j ∧ av = .int .i64 a ∧ Sep w (rB w.heap.size lv D :: (qI g N q (left p L1) v1 ++ ([rB w.heap.size (.slice A1 M1.length c1) M1] ++ [rB B2 (.slice A2 G.length c2) G]))) wr3) (fun _ _ kv _ => M1.length - (intOf kv).toNat)
  case atStart => exact ⟨0, 0, [], Nat.zero_le _, Nat.le_refl _, rfl, rfl, rfl, rfl, HS2.out⟩
  case round =>
    obtain ⟨j, a, D, hj, hDj, rfl, ha, hD, rfl, hs⟩ := hrel
    obtain ⟨Al, cl, hlv⟩ := own_slice' (show World.ownsRow wr _ _ _ _ _ _ from hs.head)
    subst hlv
    have HS3 := Lib.hid hs
    have HA := Lib.hid ha
    have HD := Lib.hid hD
    clear hs ha hD HS2
    by_cases hlt2 : j < M1.length
    · have hj0 : (0 : Int) ≤ (j : Int) := by omega
      have hj1 : (j : Int) < (M1.length : Int) := by omega
      have ha0 : (0 : Int) ≤ (a : Int) := by omega
      have hjL : j < L1.length := by rw [← HLL.out]; exact hlt2
      obtain ⟨xb, xA, xh⟩ := row_elem (show World.ownsRow wr _ 25 6 (.slice _ M1.length _) M1.length (M1.flatMap rqC) from HS3.out.tail.right.left.head) hlt2
      subst xA
      have x0 := xh 0 _ rfl
      have x1 := xh 1 _ rfl
      have x2 := xh 2 _ rfl
      have x3 := xh 3 _ rfl
      have x4 := xh 4 _ rfl
      have x5 := xh 5 _ rfl
      simp only [Nat.add_zero] at x0
      clear xh
      have HXE := Lib.hid (show M1[j] = L1[j].r from by have h := HM1.out; subst h; simp)
      have HTN : Hid ((took p (L1.take (j + 1))).length = (took p (L1.take j)).length + (if p L1[j] then 1 else 0)) := took_len_next hjL
      have HDN := Lib.hid (show leftR p L1 (j + 1) = leftR p L1 j ++ (if p L1[j] then [] else [M1[j]]) from by rw [leftR_next hjL, HXE.out])
      have HYES : Hid (p L1[j] = true → ∃ h : a < G.length, G[a] = M1[j]) := fun hp => by
        obtain ⟨h1, h2⟩ := next_yes hjL hp
        have hgt := HGT.out
        have haa := HA.out
        subst haa hgt
        exact ⟨h1, by rw [h2, HXE.out]⟩
      have HNO : Hid (p L1[j] = false → ∀ h : a < G.length, G[a] ≠ M1[j]) := fun hp h => by
        have h2 := next_no HG1.out hjL hp
        have hgt := HGT.out
        have haa := HA.out
        subst haa hgt
        rw [HXE.out]
        exact h2 h
      by_cases hag : a < G.length
      · have hag1 : (a : Int) < (G.length : Int) := by omega
        obtain ⟨yb, yA, yh⟩ := row_elem (show World.ownsRow wr _ 25 6 (.slice _ G.length _) G.length (G.flatMap rqC) from HS3.out.tail.right.right.head) hag
        subst yA
        have y0 := yh 0 _ rfl
        have y1 := yh 1 _ rfl
        have y2 := yh 2 _ rfl
        have y3 := yh 3 _ rfl
        have y4 := yh 4 _ rfl
        have y5 := yh 5 _ rfl
        simp only [Nat.add_zero] at y0
        clear yh
        have HEQ := Lib.hid (sameRq_iff M1[j] G[a])
        have HY2 := HYES.out
        have HN2 := HNO.out
        have HY3 : Hid (p L1[j] = true → G[a] = M1[j]) := fun hp => (HY2 hp).2
        have HN3 : Hid (p L1[j] = false → G[a] ≠ M1[j]) := fun hp => HN2 hp hag
        clear HY2 HN2 HYES HNO HXE
        generalize M1[j] = x at HEQ HDN HY3 HN3 x0 x1 x2 x3 x4 x5
        generalize G[a] = y at HEQ HY3 HN3 y0 y1 y2 y3 y4 y5
        obtain ⟨xm, xs, ⟨xk, xa, xb, xc⟩⟩ := x
        obtain ⟨ym, ys, ⟨yk, ya, yb, yc⟩⟩ := y
        dsimp only at HEQ x0 x1 x2 x3 x4 x5 y0 y1 y2 y3 y4 y5
        obtain ⟨b, hb⟩ : ∃ b, p L1[j] = b := ⟨_, rfl⟩
        have hpf := hb
        have HPF := Lib.hid hb
        clear hb
        cases b
        · have hne : sameRq xm xs xk xa xb xc ym ys yk ya yb yc = false := by rw [HEQ.out]; exact decide_eq_false (fun e => HN3.out hpf e.symm)
          have HPF2 := Lib.hid hpf
          clear hpf
          go_upto_region 50 with fail
          go_quiet (fail)
          have hpf := HPF2.out
          obtain ⟨U, hU⟩ : ∃ U : World, U = wr.drewN nq := ⟨_, rfl⟩
          have HSU0 := HS3.out.drewN nq
          rw [← hU] at HSU0 ⊢
          have HSU := Lib.hid HSU0
          have hz5 : ∀ x, wr.cell? x = U.cell? x := fun x => by rw [hU]; rfl
          rw [hz5] at x0 x1 x2 x3 x4 x5
          clear hU HSU0 HS3 hz5
          have HX6 : Hid (∀ x ∈ ([.int .i64 xm, .int .i64 xs, .int .u8 (xk : Nat), .string xa, .string xb, .string xc] : List Value), x.oneCell' = true) := by
            intro x hx
            simp only [List.mem_cons, List.not_mem_nil, or_false] at hx
            rcases hx with rfl | rfl | rfl | rfl | rfl | rfl <;> rfl
          have HSA := Lib.hid (HSU.out.fresh (.cells #[.int .i64 xm, .int .i64 xs, .int .u8 (xk : Nat), .string xa, .string xb, .string xc] 25))
          have HRA := Lib.hid (show World.ownsRow _ w.heap.size 25 6 (.slice Al D.length cl) D.length (D.flatMap rqC) from HSA.out.head)
          have hzz := HSA.out.size
          go_wp2_with (at_builtin
                       refine wpList_append_foot _ rfl (.tmp 216) (.tmp 221) _ rfl w.heap.size 25 i0 _ 6 72 Try.underlying41 hi hz0 hz1 hz2 rfl (by decide) _ D.length _ rfl HRA.out (U.heap.size + 1) _ 1 [.int .i64 xm, .int .i64 xs, .int .u8 (xk : Nat), .string xa, .string xb, .string xc] rfl (Row.blk (Whole.new U 25 [.int .i64 xm, .int .i64 xs, .int .u8 (xk : Nat), .string xa, .string xb, .string xc]) rfl (by omega) (by unfold maxLen; omega)) rfl HX6.out (by unfold maxLen; omega) (by omega) hzz ?_
                       intro v7 w7 hown7 hg7 hv7
                       have HS7 := Lib.hid (Sep.grown HSA.out hown7 hg7 hv7)
                       clear hown7 hg7 hv7)
          have h7 := HS7.out
          refine ⟨⟨j + 1, a, D ++ [(⟨xm, xs, ⟨xk, xa, xb, xc⟩⟩ : Rq)], by omega, (by first | omega | (rw [List.length_append, List.length_singleton]; omega)), by go_num, by rw [HTN.out, hpf]; exact HA.out, by rw [HDN.out, hpf, ← HD.out]; rfl, rfl, by show Sep w (rB w.heap.size v7 (D ++ [(⟨xm, xs, ⟨xk, xa, xb, xc⟩⟩ : Rq)]) :: _) w7; unfold rB; rw [List.length_append, List.flatMap_append]; exact h7⟩, by simp [intOf]; omega⟩
        · have hne : sameRq xm xs xk xa xb xc ym ys yk ya yb yc = true := by rw [HEQ.out]; exact decide_eq_true (HY3.out hpf).symm
          have HPF2 := Lib.hid hpf
          clear hpf
          go_upto_region 50 with fail
          go_quiet (fail)
          go_wp2_with fail
          have hpf := HPF2.out
          exact ⟨⟨j + 1, a + 1, D, by omega, (by first | omega | (rw [List.length_append, List.length_singleton]; omega)), by go_num, by rw [HTN.out, hpf, ← HA.out]; rfl, by rw [HDN.out, hpf, ← HD.out]; simp, by go_num, HS3.out.drewN nq⟩, by simp [intOf]; omega⟩
      · have hag1 : (G.length : Int) ≤ (a : Int) := by omega
        have hpf : p L1[j] = false := by cases hp : p L1[j]; rfl; exact absurd (HYES.out hp).1 hag
        clear HYES HNO HXE
        generalize M1[j] = x at HDN x0 x1 x2 x3 x4 x5
        obtain ⟨xm, xs, ⟨xk, xa, xb, xc⟩⟩ := x
        dsimp only at x0 x1 x2 x3 x4 x5
        have HPF2 := Lib.hid hpf
        clear hpf
        go_upto_region 50 with fail
        go_quiet (fail)
        have hpf := HPF2.out
        obtain ⟨U, hU⟩ : ∃ U : World, U = wr.drewN nq := ⟨_, rfl⟩
        have HSU0 := HS3.out.drewN nq
        rw [← hU] at HSU0 ⊢
        have HSU := Lib.hid HSU0
        have hz5 : ∀ x, wr.cell? x = U.cell? x := fun x => by rw [hU]; rfl
        rw [hz5] at x0 x1 x2 x3 x4 x5
        clear hU HSU0 HS3 hz5
        have HX6 : Hid (∀ x ∈ ([.int .i64 xm, .int .i64 xs, .int .u8 (xk : Nat), .string xa, .string xb, .string xc] : List Value), x.oneCell' = true) := by
          intro x hx
          simp only [List.mem_cons, List.not_mem_nil, or_false] at hx
          rcases hx with rfl | rfl | rfl | rfl | rfl | rfl <;> rfl
        have HSA := Lib.hid (HSU.out.fresh (.cells #[.int .i64 xm, .int .i64 xs, .int .u8 (xk : Nat), .string xa, .string xb, .string xc] 25))
        have HRA := Lib.hid (show World.ownsRow _ w.heap.size 25 6 (.slice Al D.length cl) D.length (D.flatMap rqC) from HSA.out.head)
        have hzz := HSA.out.size
        go_wp2_with (at_builtin
                     refine wpList_append_foot _ rfl (.tmp 216) (.tmp 221) _ rfl w.heap.size 25 i0 _ 6 72 Try.underlying41 hi hz0 hz1 hz2 rfl (by decide) _ D.length _ rfl HRA.out (U.heap.size + 1) _ 1 [.int .i64 xm, .int .i64 xs, .int .u8 (xk : Nat), .string xa, .string xb, .string xc] rfl (Row.blk (Whole.new U 25 [.int .i64 xm, .int .i64 xs, .int .u8 (xk : Nat), .string xa, .string xb, .string xc]) rfl (by omega) (by unfold maxLen; omega)) rfl HX6.out (by unfold maxLen; omega) (by omega) hzz ?_
                     intro v7 w7 hown7 hg7 hv7
                     have HS7 := Lib.hid (Sep.grown HSA.out hown7 hg7 hv7)
                     clear hown7 hg7 hv7)
        have h7 := HS7.out
        refine ⟨⟨j + 1, a, D ++ [(⟨xm, xs, ⟨xk, xa, xb, xc⟩⟩ : Rq)], by omega, (by first | omega | (rw [List.length_append, List.length_singleton]; omega)), by go_num, by rw [HTN.out, hpf]; exact HA.out, by rw [HDN.out, hpf, ← HD.out]; rfl, rfl, by show Sep w (rB w.heap.size v7 (D ++ [(⟨xm, xs, ⟨xk, xa, xb, xc⟩⟩ : Rq)]) :: _) w7; unfold rB; rw [List.length_append, List.flatMap_append]; exact h7⟩, by simp [intOf]; omega⟩
    · have e : j = M1.length := by omega
      subst e
      have hlen : a = G.length := by rw [HA.out, HLL.out, List.take_length, HGT.out]
      subst hlen
      have hDD : (left p L1).map (fun x : Wt => x.r) = D := by rw [HD.out, HLL.out]; unfold leftR; rw [List.take_length]
      have HDD := Lib.hid hDD
      clear hDD
      have hD8 : D.length ≤ 8 := by rw [← HDD.out, List.length_map]; exact (HG1.out.left p).ok.len
      have HS4 : Hid (Sep w (qI g N q (left p L1) v1 ++ ([] ++ [rB w.heap.size (.slice Al D.length cl) D])) wr) := ((HS3.out).sub (List.Sublist.cons_cons _ (List.Sublist.append (List.Sublist.refl _) (List.nil_sublist _)))).perm (to_end _ (qI g N q (left p L1) v1) [])
      clear HS3
      go_wp2_with fail
      refine (waits_sep HS4.out hn (HG1.out.left p).ok D HDD.out D.length rfl).mono ?_
      rintro e u6 ⟨A6, c6, rfl, h⟩
      have HS5 := Lib.hid h
      clear h
      go_wp2_with fail
      go_loopw [22] (fun iv wr5 => ∃ j : Nat, j ≤ D.length ∧ iv = .int .i64 j ∧ Sep w (qI g N q (left p L1) v1 ++ (([] ++ [rB w.heap.size (.slice Al D.length cl) D]) ++ [rI wr (.slice A6 D.length c6) D])) wr5) (fun iv _ => D.length - (intOf iv).toNat)
      case atStart => exact ⟨0, Nat.zero_le _, rfl, HS5.out⟩
      case round =>
        obtain ⟨j, hj, rfl, hs⟩ := hrel
        have HS6 := Lib.hid hs
        clear hs HS5
        by_cases hlt3 : j < D.length
        · have hj0 : (0 : Int) ≤ (j : Int) := by omega
          have hj1 : (j : Int) < (D.length : Int) := by omega
          obtain ⟨xb, xA, xh⟩ := row_elem (show World.ownsRow wr _ 25 6 (.slice _ D.length _) D.length (D.flatMap rqC) from HS6.out.right.left.right.head) hlt3
          subst xA
          have x0 := xh 0 _ rfl
          have x1 := xh 1 _ rfl
          have x2 := xh 2 _ rfl
          have x3 := xh 3 _ rfl
          have x4 := xh 4 _ rfl
          have x5 := xh 5 _ rfl
          simp only [Nat.add_zero] at x0
          clear xh
          obtain ⟨yb, yA, yh⟩ := row_elem (show World.ownsRow wr _ 25 6 (.slice _ D.length _) D.length (D.flatMap rqC) from HS6.out.right.right.head) hlt3
          subst yA
          have y0 := yh 0 _ rfl
          have y1 := yh 1 _ rfl
          have y2 := yh 2 _ rfl
          have y3 := yh 3 _ rfl
          have y4 := yh 4 _ rfl
          have y5 := yh 5 _ rfl
          simp only [Nat.add_zero] at y0
          clear yh
          have HEQ := Lib.hid (sameRq_iff D[j] D[j])
          generalize D[j] = x at HEQ x0 x1 x2 x3 x4 x5 y0 y1 y2 y3 y4 y5
          obtain ⟨xm, xs, ⟨xk, xa, xb, xc⟩⟩ := x
          dsimp only at HEQ x0 x1 x2 x3 x4 x5 y0 y1 y2 y3 y4 y5
          have hne : sameRq xm xs xk xa xb xc xm xs xk xa xb xc = true := by rw [HEQ.out]; exact decide_eq_true rfl
          go_upto_region 60 with fail
          go_quiet (fail)
          go_wp2_with fail
          exact ⟨⟨j + 1, by omega, by go_num, HS6.out.drewN nq⟩, by simp [intOf]; omega⟩
        · have e : j = D.length := by omega
          subst e
          go_wp2_with fail
          go_roundw
          case rel => exact ⟨k + 1, left p L1, D, v1, by omega, by go_num, HG1.out.left p, HDD.out.symm, HS6.out.sub (List.Sublist.append (List.Sublist.refl _) (List.sublist_append_left _ _))⟩
          case measure => simp [intOf]; omega

end Qu
end Go.Proofs.Ytinnpeonokdljaa
