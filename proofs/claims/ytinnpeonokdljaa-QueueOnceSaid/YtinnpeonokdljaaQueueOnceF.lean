/- QueueOnce: an arm of the round. -/
import Derived.Test.YtinnpeonokdljaaQueueOnceA
set_option linter.unusedSimpArgs false
set_option linter.unusedVariables false
namespace Go.Proofs.Ytinnpeonokdljaa
open Go.RowKit
namespace Qu
open Qm
attribute [local go_sem ↓] eql_rq neq_rq
set_option maxRecDepth 100000 in
set_option maxHeartbeats 64000000 in
set_option tactic.hygienic false in
theorem qo_arm4 : qoSplit.p4 := by
  intro n
  intros
  go_wp2_with fail
  refine (answer_sep HS.out hn HG.out.ok an aq).mono ?_
  rintro e u1 ⟨rfl, v1, h1⟩
  have HS1 := Lib.hid h1
  clear h1 HS b0 b1 b2 b3 b4 b5 b6 b7 b8 hbl
  go_wp2_with fail
  go_meet
  refine ⟨(ansR N an aq L).2, M, fun _ => false, [], v1, 0, (HG.out.ans N an aq), (by rw [ans_r]; exact HMM.out), (took_no _).symm, ?_⟩
  rw [left_no]
  exact ((show Sep w (qI g N q (ansR N an aq L).2 v1 ++ ([rB w.heap.size (.slice Aw M.length cw) M] ++ [])) _ from HS1.out.sub (List.Sublist.append (List.Sublist.refl _) (List.Sublist.append (List.Sublist.refl _) (List.nil_sublist _)))).empty 0 25 6).perm (to_end _ _ _)
set_option maxRecDepth 100000 in
set_option maxHeartbeats 64000000 in
set_option tactic.hygienic false in
theorem qo_arm5 : qoSplit.p5 := by
  intro n
  intros
  go_wp2_with fail
  refine (answer_sep HS.out hn HG.out.ok an aq).mono ?_
  rintro e u1 ⟨rfl, v1, h1⟩
  have HS1 := Lib.hid h1
  clear h1 HS b0 b1 b2 b3 b4 b5 b6 b7 b8 hbl
  go_wp2_with fail
  go_meet
  refine ⟨(ansR N an aq L).2, M, fun _ => false, [], v1, 0, (HG.out.ans N an aq), (by rw [ans_r]; exact HMM.out), (took_no _).symm, ?_⟩
  rw [left_no]
  exact ((show Sep w (qI g N q (ansR N an aq L).2 v1 ++ ([rB w.heap.size (.slice Aw M.length cw) M] ++ [])) _ from HS1.out.sub (List.Sublist.append (List.Sublist.refl _) (List.Sublist.append (List.Sublist.refl _) (List.nil_sublist _)))).empty 0 25 6).perm (to_end _ _ _)
set_option maxRecDepth 100000 in
set_option maxHeartbeats 64000000 in
set_option tactic.hygienic false in
theorem qo_arm7 : qoSplit.p7 := by
  intro n
  intros
  go_wp2_with fail
  refine (ready_sep HS.out hn HG.out.ok ai _ rfl _ rfl).mono ?_
  rintro e u1 ⟨A1, c1, v1, rfl, h1⟩
  have HS1 := Lib.hid (show Sep w (qI g N q (left (readyB N ai) L) v1 ++ ([rB w.heap.size (.slice Aw M.length cw) M] ++ [rB W.heap.size (.slice A1 (took (readyB N ai) L).length c1) (took (readyB N ai) L)])) u1 from h1.sub (List.Sublist.append (List.Sublist.refl _) (List.Sublist.append (List.sublist_append_left _ _) (List.Sublist.refl _))))
  clear h1 HS b0 b1 b2 b3 b4 b5 b6 b7 b8 hbl
  go_wp2_with fail
  go_meet
  exact ⟨L, M, readyB N ai, _, _, _, HG.out, HMM.out, rfl, HS1.out⟩

end Qu
end Go.Proofs.Ytinnpeonokdljaa
