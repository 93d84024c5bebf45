/- TermsTells: the row's closed facts, one by one. -/
import Derived.Test.YtppejcmjjjfamaaDoorRows
import Derived.JoinedOf
import Derived.KernelRfl
namespace Go.Proofs.YtppejcmjjjfamaaDoor
open Go
set_option maxRecDepth 100000 in
set_option maxHeartbeats 16000000 in
theorem tells_facts : joinedFacts Tryd.prog 3 Tryd.f3 Rows.termsTellsSpec Rows.termsTellsRow = true := by
  simp only [joinedFacts, Bool.and_eq_true]
  repeat' (with_reducible apply And.intro)
  all_goals (as_aux_lemma => kernel_rfl)
end Go.Proofs.YtppejcmjjjfamaaDoor
