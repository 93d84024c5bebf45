/- TermsKnown: the row's statement out of its proved step. -/
import Derived.Test.YtppejcmjjjfamaaDoorKnownProof
import Derived.Test.YtppejcmjjjfamaaDoorKnownFacts
namespace Go.Proofs.YtppejcmjjjfamaaDoor
open Go.ChangeShapes Go.WideShapes Go.ChangeAt Go.RowKit
theorem known_named : Tryd.prog.funcNamed "middling/middlinglaw04.TermsKnown" = some 6 := by kernel_rfl
theorem known_inst : Tryd.f6.isInstance Tryd.prog Rows.termsKnownRow.origin Rows.termsKnownRow.targs := of_decide_eq_true (by kernel_rfl)
theorem known_wrap : Tryd.f6.isWrapper Tryd.prog Rows.termsKnownRow.wrapper Rows.termsKnownRow.mainSum := by unfold Func.isWrapper; first | (rw [if_pos (by decide +kernel)]; kernel_rfl) | (rw [if_neg (by decide +kernel)]; exact ⟨rfl, rfl⟩)
theorem known_holds : Rows.TermsKnownSaid :=
  OpenClaim.holds_of_wide 6 Tryd.f6 rfl rfl rfl rfl rfl rfl rfl ⟨rfl, rfl, rfl, rfl, rfl⟩ rfl rfl rfl rfl rfl known_named Tryd.func6 known_facts
    known_inst known_wrap
    (fun os started H enc _ => known_lifted os started H enc)
#print axioms known_holds
end Go.Proofs.YtppejcmjjjfamaaDoor
