/- TermsTells: the row's statement out of its proved step. -/
import Derived.Test.YtppejcmjjjfamaaDoorTellsProof
import Derived.Test.YtppejcmjjjfamaaDoorTellsFacts
namespace Go.Proofs.YtppejcmjjjfamaaDoor
open Go.ChangeShapes Go.WideShapes Go.ChangeAt Go.RowKit
theorem tells_named : Tryd.prog.funcNamed "middling/middlinglaw04.TermsTells" = some 3 := by kernel_rfl
theorem tells_inst : Tryd.f3.isInstance Tryd.prog Rows.termsTellsRow.origin Rows.termsTellsRow.targs := of_decide_eq_true (by kernel_rfl)
theorem tells_wrap : Tryd.f3.isWrapper Tryd.prog Rows.termsTellsRow.wrapper Rows.termsTellsRow.mainSum := by unfold Func.isWrapper; first | (rw [if_pos (by decide +kernel)]; kernel_rfl) | (rw [if_neg (by decide +kernel)]; exact ⟨rfl, rfl⟩)
theorem tells_holds : Rows.TermsTellsSaid :=
  OpenClaim.holds_of_wide 3 Tryd.f3 rfl rfl rfl rfl rfl rfl rfl ⟨rfl, rfl, rfl, rfl, rfl⟩ rfl rfl rfl rfl rfl tells_named Tryd.func3 tells_facts
    tells_inst tells_wrap
    (fun os started H enc _ => tells_lifted os started H enc)
#print axioms tells_holds
end Go.Proofs.YtppejcmjjjfamaaDoor
