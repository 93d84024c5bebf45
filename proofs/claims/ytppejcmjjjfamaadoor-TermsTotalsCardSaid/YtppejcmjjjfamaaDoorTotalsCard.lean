/- TermsTotals, its tied card: for every input the call returns true, and each argument reads afterwards as it read before; the table of checks is tied to the program's text. No condition. -/
import Derived.Test.YtppejcmjjjfamaaDoorTotalsHolds
namespace Go.Proofs.YtppejcmjjjfamaaDoor
open Go

theorem totals_card : Rows.TermsTotalsCardSaid :=
  Claim7.holds_tied_plain_at .later [] [.funcs] true Rows.termsTotalsCard.stood.harness false
    totals_holds (fun _ h => by cases h) (by kernel_rfl) (fun _ h => by cases h) termsTotals_row_tie rfl ⟨rfl, rfl⟩ (by kernel_rfl) rfl
    (fun f fn hf hfn => by
      obtain rfl : f = 4 := Option.some.inj ((show Tryd.prog.funcNamed "middling/middlinglaw04.TermsTotals" = some 4 by kernel_rfl).symm.trans hf) |>.symm
      obtain rfl : fn = Tryd.f4 := (Option.some.inj (Tryd.func4.symm.trans hfn)).symm
      refine ⟨by kernel_rfl, fun j t ht => ?_⟩
      rw [Tryd.params4] at ht
      have h3 : t = 28 ∨ t = 3 ∨ t = 44 := by
        have := List.mem_of_getElem? (by simpa using ht)
        simpa using this
      rcases h3 with rfl | rfl | rfl
      · exact (show Tryd.prog.wantsStandIn 28 = false by kernel_rfl)
      · exact (show Tryd.prog.wantsStandIn 3 = false by kernel_rfl)
      · exact (show Tryd.prog.wantsStandIn 44 = false by kernel_rfl))
    (by kernel_rfl)
#print axioms totals_card
end Go.Proofs.YtppejcmjjjfamaaDoor
