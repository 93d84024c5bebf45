/- TermsTotals: the row's closed facts, one by one. -/
import Derived.Test.YtppejcmjjjfamaaDoorRows
import Derived.JoinedOf
import Derived.KernelRfl
namespace Go.Proofs.YtppejcmjjjfamaaDoor
open Go
set_option maxRecDepth 100000 in
set_option maxHeartbeats 16000000 in
theorem totals_facts : joinedFacts Tryd.prog 4 Tryd.f4 Rows.termsTotalsSpec Rows.termsTotalsRow = true := by
  simp only [joinedFacts, Bool.and_eq_true]
  repeat' (with_reducible apply And.intro)
  all_goals (as_aux_lemma => kernel_rfl)
end Go.Proofs.YtppejcmjjjfamaaDoor
