/- TermsKnown: the row's closed facts, one by one. -/
import Derived.Test.YtppejcmjjjfamaaDoorRows
import Derived.JoinedOf
import Derived.KernelRfl
namespace Go.Proofs.YtppejcmjjjfamaaDoor
open Go
set_option maxRecDepth 100000 in
set_option maxHeartbeats 16000000 in
theorem known_facts : joinedFacts Tryd.prog 6 Tryd.f6 Rows.termsKnownSpec Rows.termsKnownRow = true := by
  simp only [joinedFacts, Bool.and_eq_true]
  repeat' (with_reducible apply And.intro)
  all_goals (as_aux_lemma => kernel_rfl)
end Go.Proofs.YtppejcmjjjfamaaDoor
