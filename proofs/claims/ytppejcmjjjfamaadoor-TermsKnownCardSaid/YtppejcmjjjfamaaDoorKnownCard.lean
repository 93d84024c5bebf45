/- TermsKnown, its tied card: for every input the call returns true, and each argument reads afterwards as it read before; the table of checks is tied to the program's text. No condition. -/
import Derived.Test.YtppejcmjjjfamaaDoorKnownHolds
namespace Go.Proofs.YtppejcmjjjfamaaDoor
open Go

theorem known_card : Rows.TermsKnownCardSaid :=
  Claim7.holds_tied_plain_at .later [] [.funcs] true Rows.termsKnownCard.stood.harness false
    known_holds (fun _ h => by cases h) (by kernel_rfl) (fun _ h => by cases h) termsKnown_row_tie rfl ⟨rfl, rfl⟩ (by kernel_rfl) rfl
    (fun f fn hf hfn => by
      obtain rfl : f = 6 := Option.some.inj ((show Tryd.prog.funcNamed "middling/middlinglaw04.TermsKnown" = some 6 by kernel_rfl).symm.trans hf) |>.symm
      obtain rfl : fn = Tryd.f6 := (Option.some.inj (Tryd.func6.symm.trans hfn)).symm
      refine ⟨by kernel_rfl, fun j t ht => ?_⟩
      rw [Tryd.params6] at ht
      have h3 : t = 28 ∨ t = 26 ∨ t = 3 := by
        have := List.mem_of_getElem? (by simpa using ht)
        simpa using this
      rcases h3 with rfl | rfl | rfl
      · exact (show Tryd.prog.wantsStandIn 28 = false by kernel_rfl)
      · exact (show Tryd.prog.wantsStandIn 26 = false by kernel_rfl)
      · exact (show Tryd.prog.wantsStandIn 3 = false by kernel_rfl))
    (by kernel_rfl)
#print axioms known_card
end Go.Proofs.YtppejcmjjjfamaaDoor
