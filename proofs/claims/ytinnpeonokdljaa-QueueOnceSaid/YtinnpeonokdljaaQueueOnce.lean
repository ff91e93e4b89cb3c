/- The law QueueOnce, walked: its parts joined. -/
import Derived.Test.YtinnpeonokdljaaQueueOnceB
import Derived.Test.YtinnpeonokdljaaQueueOnceC
import Derived.Test.YtinnpeonokdljaaQueueOnceD
import Derived.Test.YtinnpeonokdljaaQueueOnceE
import Derived.Test.YtinnpeonokdljaaQueueOnceF
import Derived.Test.YtinnpeonokdljaaQueueOnceG
import Derived.Test.YtinnpeonokdljaaQueueOnceH
set_option linter.unusedSimpArgs false
set_option linter.unusedVariables false
namespace Go.Proofs.Ytinnpeonokdljaa
open Go.RowKit
namespace Qu
open Qm
attribute [local go_sem ↓] eql_rq neq_rq
theorem queueOnce_is (n own : Int) (l : List Ac) (v : Value) (w : World) (hr : Row w w.heap.size v l.length (l.flatMap acC)) :
    Calls Try.prog 6 #[.int .i64 n, .int .i64 own, v] w fun e w' => e = .returned (.bool true) ∧ Below w.heap.size w w' := qoSplit.thm ⟨qo_arm0⟩ ⟨qo_arm1⟩ ⟨qo_arm2⟩ ⟨qo_arm3⟩ ⟨qo_arm4⟩ ⟨qo_arm5⟩ ⟨qo_arm6⟩ ⟨qo_arm7⟩ ⟨qo_rest⟩ n own l v w hr

end Qu
end Go.Proofs.Ytinnpeonokdljaa
