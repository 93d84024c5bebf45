/- TermsTotals: the row's statement out of its proved step. -/
import Derived.Test.YtppejcmjjjfamaaDoorTotalsProof
import Derived.Test.YtppejcmjjjfamaaDoorTotalsFacts
namespace Go.Proofs.YtppejcmjjjfamaaDoor
open Go.ChangeShapes Go.WideShapes Go.ChangeAt Go.RowKit
theorem totals_named : Tryd.prog.funcNamed "middling/middlinglaw04.TermsTotals" = some 4 := by kernel_rfl
theorem totals_inst : Tryd.f4.isInstance Tryd.prog Rows.termsTotalsRow.origin Rows.termsTotalsRow.targs := of_decide_eq_true (by kernel_rfl)
theorem totals_wrap : Tryd.f4.isWrapper Tryd.prog Rows.termsTotalsRow.wrapper Rows.termsTotalsRow.mainSum := by unfold Func.isWrapper; first | (rw [if_pos (by decide +kernel)]; kernel_rfl) | (rw [if_neg (by decide +kernel)]; exact ⟨rfl, rfl⟩)
theorem totals_holds : Rows.TermsTotalsSaid :=
  OpenClaim.holds_of_wide 4 Tryd.f4 rfl rfl rfl rfl rfl rfl rfl ⟨rfl, rfl, rfl, rfl, rfl⟩ rfl rfl rfl rfl rfl totals_named Tryd.func4 totals_facts
    totals_inst totals_wrap
    (fun os started H enc _ => totals_lifted os started H enc)
#print axioms totals_holds
end Go.Proofs.YtppejcmjjjfamaaDoor
