/-
  DERIVED. GIVEN WITH THE SEED: THE CARDS: each row of YtppejcmjjjfamaaDoorRows.lean that lists a variable, with what it lists TIED to the program's text (the seventh form; the later family's looks); each row that meets fmt, with fmt's text TOLD by the authors' own Lean function (tested against real Go, not proved from fmt's source: count such statements apart). THE CARD IS WHAT COUNTS. Prove the row's statement (the work); the ties are given (YtppejcmjjjfamaaDoorTie.lean); close each card by the builder's one call (the guide's Derived/Test/ToyasCard.lean, 'card_holds'). Laid BY PROGRAM, IN A SANDBOX (cutbox-door.mjs). By AI agents, Wed Nov 11 2026. No macro, syntax, notation, axiom, sorry.
-/
import Derived.Test.YtppejcmjjjfamaaDoorRows
import GoSem.ClaimSeven
namespace Go.Proofs.YtppejcmjjjfamaaDoor
namespace Rows

/-- THE TIED CARD OF 'middlinglaw04.TermsTells'. -/
def termsTellsCard : Claim7 := { stood := { row := termsTellsRow, standIns := [], harness := (true, "7e62dff8bd6af8135f93d91aa25627fb3aa9122b54cebb38849e8b60be602c4f"), looks := false }, kinds := [], alts := [], laidByText := true, laidKinds := [.funcs], laidTests := true, laidLooks := .later }
def TermsTellsCardSaid : Prop := Claim7.holds Tryd.pinned (.plain (OpenSpec.ofChange termsTellsSpec)) termsTellsCard

/-- THE TIED CARD OF 'middlinglaw04.TermsTotals'. -/
def termsTotalsCard : Claim7 := { stood := { row := termsTotalsRow, standIns := [], harness := (true, "7e62dff8bd6af8135f93d91aa25627fb3aa9122b54cebb38849e8b60be602c4f"), looks := false }, kinds := [], alts := [], laidByText := true, laidKinds := [.funcs], laidTests := true, laidLooks := .later }
def TermsTotalsCardSaid : Prop := Claim7.holds Tryd.pinned (.plain (OpenSpec.ofChange termsTotalsSpec)) termsTotalsCard

/-- THE TIED CARD OF 'middlinglaw04.TermsMonths'. -/
def termsMonthsCard : Claim7 := { stood := { row := termsMonthsRow, standIns := [], harness := (true, "7e62dff8bd6af8135f93d91aa25627fb3aa9122b54cebb38849e8b60be602c4f"), looks := false }, kinds := [], alts := [], laidByText := true, laidKinds := [.funcs], laidTests := true, laidLooks := .later }
def TermsMonthsCardSaid : Prop := Claim7.holds Tryd.pinned (.plain (OpenSpec.ofChange termsMonthsSpec)) termsMonthsCard

/-- THE TIED CARD OF 'middlinglaw04.TermsKnown'. -/
def termsKnownCard : Claim7 := { stood := { row := termsKnownRow, standIns := [], harness := (true, "7e62dff8bd6af8135f93d91aa25627fb3aa9122b54cebb38849e8b60be602c4f"), looks := false }, kinds := [], alts := [], laidByText := true, laidKinds := [.funcs], laidTests := true, laidLooks := .later }
def TermsKnownCardSaid : Prop := Claim7.holds Tryd.pinned (.plain (OpenSpec.ofChange termsKnownSpec)) termsKnownCard

/-- THE TIED CARD OF 'middlinglaw04.TermsChanges'. -/
def termsChangesCard : Claim7 := { stood := { row := termsChangesRow, standIns := [], harness := (true, "7e62dff8bd6af8135f93d91aa25627fb3aa9122b54cebb38849e8b60be602c4f"), looks := false }, kinds := [], alts := [], laidByText := true, laidKinds := [.funcs], laidTests := true, laidLooks := .later }
def TermsChangesCardSaid : Prop := Claim7.holds Tryd.pinned (.plain (OpenSpec.ofChange termsChangesSpec)) termsChangesCard

/-- THE TIED CARD OF 'middlinglaw04.TermsCosts'. -/
def termsCostsCard : Claim7 := { stood := { row := termsCostsRow, standIns := [], harness := (true, "7e62dff8bd6af8135f93d91aa25627fb3aa9122b54cebb38849e8b60be602c4f"), looks := false }, kinds := [], alts := [], laidByText := true, laidKinds := [.funcs], laidTests := true, laidLooks := .later }
def TermsCostsCardSaid : Prop := Claim7.holds Tryd.pinned (.plain (OpenSpec.ofChange termsCostsSpec)) termsCostsCard

/-- THE TIED CARD OF 'middlinglaw04.TermsLooks'. -/
def termsLooksCard : Claim7 := { stood := { row := termsLooksRow, standIns := [], harness := (true, "7e62dff8bd6af8135f93d91aa25627fb3aa9122b54cebb38849e8b60be602c4f"), looks := false }, kinds := [], alts := [], laidByText := true, laidKinds := [.funcs], laidTests := true, laidLooks := .later }
def TermsLooksCardSaid : Prop := Claim7.holds Tryd.pinned (.plain (OpenSpec.ofChange termsLooksSpec)) termsLooksCard

/-- THE TIED CARD OF 'middlinglaw04.TermsExamples'. -/
def termsExamplesCard : Claim7 := { stood := { row := termsExamplesRow, standIns := [], harness := (true, "7e62dff8bd6af8135f93d91aa25627fb3aa9122b54cebb38849e8b60be602c4f"), looks := false }, kinds := [], alts := [], laidByText := true, laidKinds := [.funcs], laidTests := true, laidLooks := .later }
def TermsExamplesCardSaid : Prop := Claim7.holds Tryd.pinned (.plain (OpenSpec.ofChange termsExamplesSpec)) termsExamplesCard

/-- THE TIED CARD OF 'middlinglaw04.TermsBetween'. -/
def termsBetweenCard : Claim7 := { stood := { row := termsBetweenRow, standIns := [], harness := (true, "7e62dff8bd6af8135f93d91aa25627fb3aa9122b54cebb38849e8b60be602c4f"), looks := false }, kinds := [], alts := [], laidByText := true, laidKinds := [.funcs], laidTests := true, laidLooks := .later }
def TermsBetweenCardSaid : Prop := Claim7.holds Tryd.pinned (.plain (OpenSpec.ofChange termsBetweenSpec)) termsBetweenCard

/-- THE TIED CARD OF 'middlinglaw04.TermsPaid'. -/
def termsPaidCard : Claim7 := { stood := { row := termsPaidRow, standIns := [], harness := (true, "7e62dff8bd6af8135f93d91aa25627fb3aa9122b54cebb38849e8b60be602c4f"), looks := false }, kinds := [], alts := [], laidByText := true, laidKinds := [.funcs], laidTests := true, laidLooks := .later }
def TermsPaidCardSaid : Prop := Claim7.holds Tryd.pinned (.plain (OpenSpec.ofChange termsPaidSpec)) termsPaidCard

/-- THE TIED CARD OF 'middlinglaw04.TermsAsk'. -/
def termsAskCard : Claim7 := { stood := { row := termsAskRow, standIns := [], harness := (true, "7e62dff8bd6af8135f93d91aa25627fb3aa9122b54cebb38849e8b60be602c4f"), looks := false }, kinds := [], alts := [], laidByText := true, laidKinds := [.funcs], laidTests := true, laidLooks := .later }
def TermsAskCardSaid : Prop := Claim7.holds Tryd.pinned (.plain (OpenSpec.ofChange termsAskSpec)) termsAskCard

/-- THE TIED CARD OF 'middlinglaw04.TermsSay'. -/
def termsSayCard : Claim7 := { stood := { row := termsSayRow, standIns := [], harness := (true, "7e62dff8bd6af8135f93d91aa25627fb3aa9122b54cebb38849e8b60be602c4f"), looks := false }, kinds := [], alts := [], laidByText := true, laidKinds := [.funcs], laidTests := true, laidLooks := .later }
def TermsSayCardSaid : Prop := Claim7.holds Tryd.pinned (.plain (OpenSpec.ofChange termsSaySpec)) termsSayCard

/-- THE TIED CARD OF 'middlinglaw04.TermsCheap'. -/
def termsCheapCard : Claim7 := { stood := { row := termsCheapRow, standIns := [], harness := (true, "7e62dff8bd6af8135f93d91aa25627fb3aa9122b54cebb38849e8b60be602c4f"), looks := false }, kinds := [], alts := [], laidByText := true, laidKinds := [.funcs], laidTests := true, laidLooks := .later }
def TermsCheapCardSaid : Prop := Claim7.holds Tryd.pinned (.plain (OpenSpec.ofChange termsCheapSpec)) termsCheapCard

/-- THE TIED CARD OF 'middlinglaw04.TermsBetter'. -/
def termsBetterCard : Claim7 := { stood := { row := termsBetterRow, standIns := [], harness := (true, "7e62dff8bd6af8135f93d91aa25627fb3aa9122b54cebb38849e8b60be602c4f"), looks := false }, kinds := [], alts := [], laidByText := true, laidKinds := [.funcs], laidTests := true, laidLooks := .later }
def TermsBetterCardSaid : Prop := Claim7.holds Tryd.pinned (.plain (OpenSpec.ofChange termsBetterSpec)) termsBetterCard

/-- THE TIED CARD OF 'middlinglaw04.TermsRebased'. -/
def termsRebasedCard : Claim7 := { stood := { row := termsRebasedRow, standIns := [], harness := (true, "7e62dff8bd6af8135f93d91aa25627fb3aa9122b54cebb38849e8b60be602c4f"), looks := false }, kinds := [], alts := [], laidByText := true, laidKinds := [.funcs], laidTests := true, laidLooks := .later }
def TermsRebasedCardSaid : Prop := Claim7.holds Tryd.pinned (.plain (OpenSpec.ofChange termsRebasedSpec)) termsRebasedCard

/-- THE TIED CARD OF 'middlinglaw04.TermsJoined'. -/
def termsJoinedCard : Claim7 := { stood := { row := termsJoinedRow, standIns := [], harness := (true, "7e62dff8bd6af8135f93d91aa25627fb3aa9122b54cebb38849e8b60be602c4f"), looks := false }, kinds := [], alts := [], laidByText := true, laidKinds := [.funcs], laidTests := true, laidLooks := .later }
def TermsJoinedCardSaid : Prop := Claim7.holds Tryd.pinned (.plain (OpenSpec.ofChange termsJoinedSpec)) termsJoinedCard

/-- THE TIED CARD OF 'middlinglaw04.TermsSums'. -/
def termsSumsCard : Claim7 := { stood := { row := termsSumsRow, standIns := [], harness := (true, "7e62dff8bd6af8135f93d91aa25627fb3aa9122b54cebb38849e8b60be602c4f"), looks := false }, kinds := [], alts := [], laidByText := true, laidKinds := [.funcs], laidTests := true, laidLooks := .later }
def TermsSumsCardSaid : Prop := Claim7.holds Tryd.pinned (.plain (OpenSpec.ofChange termsSumsSpec)) termsSumsCard

/-- THE SECOND FORM's CARD OF 'middlinglaw04.TermsTells'. -/
def termsTellsUptoCard : Claim7 := { stood := { row := termsTellsUptoRow, standIns := [], harness := (true, "7e62dff8bd6af8135f93d91aa25627fb3aa9122b54cebb38849e8b60be602c4f"), looks := false }, kinds := [], alts := [], laidByText := true, laidKinds := [.funcs], laidTests := true, laidLooks := .later }
def TermsTellsUptoCardSaid : Prop := Claim7.holds Tryd.pinned (.plain (OpenSpec.upto termsTellsSpec)) termsTellsUptoCard

/-- THE SECOND FORM's CARD OF 'middlinglaw04.TermsTotals'. -/
def termsTotalsUptoCard : Claim7 := { stood := { row := termsTotalsUptoRow, standIns := [], harness := (true, "7e62dff8bd6af8135f93d91aa25627fb3aa9122b54cebb38849e8b60be602c4f"), looks := false }, kinds := [], alts := [], laidByText := true, laidKinds := [.funcs], laidTests := true, laidLooks := .later }
def TermsTotalsUptoCardSaid : Prop := Claim7.holds Tryd.pinned (.plain (OpenSpec.upto termsTotalsSpec)) termsTotalsUptoCard

/-- THE SECOND FORM's CARD OF 'middlinglaw04.TermsMonths'. -/
def termsMonthsUptoCard : Claim7 := { stood := { row := termsMonthsUptoRow, standIns := [], harness := (true, "7e62dff8bd6af8135f93d91aa25627fb3aa9122b54cebb38849e8b60be602c4f"), looks := false }, kinds := [], alts := [], laidByText := true, laidKinds := [.funcs], laidTests := true, laidLooks := .later }
def TermsMonthsUptoCardSaid : Prop := Claim7.holds Tryd.pinned (.plain (OpenSpec.upto termsMonthsSpec)) termsMonthsUptoCard

/-- THE SECOND FORM's CARD OF 'middlinglaw04.TermsKnown'. -/
def termsKnownUptoCard : Claim7 := { stood := { row := termsKnownUptoRow, standIns := [], harness := (true, "7e62dff8bd6af8135f93d91aa25627fb3aa9122b54cebb38849e8b60be602c4f"), looks := false }, kinds := [], alts := [], laidByText := true, laidKinds := [.funcs], laidTests := true, laidLooks := .later }
def TermsKnownUptoCardSaid : Prop := Claim7.holds Tryd.pinned (.plain (OpenSpec.upto termsKnownSpec)) termsKnownUptoCard

/-- THE SECOND FORM's CARD OF 'middlinglaw04.TermsChanges'. -/
def termsChangesUptoCard : Claim7 := { stood := { row := termsChangesUptoRow, standIns := [], harness := (true, "7e62dff8bd6af8135f93d91aa25627fb3aa9122b54cebb38849e8b60be602c4f"), looks := false }, kinds := [], alts := [], laidByText := true, laidKinds := [.funcs], laidTests := true, laidLooks := .later }
def TermsChangesUptoCardSaid : Prop := Claim7.holds Tryd.pinned (.plain (OpenSpec.upto termsChangesSpec)) termsChangesUptoCard

/-- THE SECOND FORM's CARD OF 'middlinglaw04.TermsCosts'. -/
def termsCostsUptoCard : Claim7 := { stood := { row := termsCostsUptoRow, standIns := [], harness := (true, "7e62dff8bd6af8135f93d91aa25627fb3aa9122b54cebb38849e8b60be602c4f"), looks := false }, kinds := [], alts := [], laidByText := true, laidKinds := [.funcs], laidTests := true, laidLooks := .later }
def TermsCostsUptoCardSaid : Prop := Claim7.holds Tryd.pinned (.plain (OpenSpec.upto termsCostsSpec)) termsCostsUptoCard

/-- THE SECOND FORM's CARD OF 'middlinglaw04.TermsLooks'. -/
def termsLooksUptoCard : Claim7 := { stood := { row := termsLooksUptoRow, standIns := [], harness := (true, "7e62dff8bd6af8135f93d91aa25627fb3aa9122b54cebb38849e8b60be602c4f"), looks := false }, kinds := [], alts := [], laidByText := true, laidKinds := [.funcs], laidTests := true, laidLooks := .later }
def TermsLooksUptoCardSaid : Prop := Claim7.holds Tryd.pinned (.plain (OpenSpec.upto termsLooksSpec)) termsLooksUptoCard

/-- THE SECOND FORM's CARD OF 'middlinglaw04.TermsExamples'. -/
def termsExamplesUptoCard : Claim7 := { stood := { row := termsExamplesUptoRow, standIns := [], harness := (true, "7e62dff8bd6af8135f93d91aa25627fb3aa9122b54cebb38849e8b60be602c4f"), looks := false }, kinds := [], alts := [], laidByText := true, laidKinds := [.funcs], laidTests := true, laidLooks := .later }
def TermsExamplesUptoCardSaid : Prop := Claim7.holds Tryd.pinned (.plain (OpenSpec.upto termsExamplesSpec)) termsExamplesUptoCard

/-- THE SECOND FORM's CARD OF 'middlinglaw04.TermsBetween'. -/
def termsBetweenUptoCard : Claim7 := { stood := { row := termsBetweenUptoRow, standIns := [], harness := (true, "7e62dff8bd6af8135f93d91aa25627fb3aa9122b54cebb38849e8b60be602c4f"), looks := false }, kinds := [], alts := [], laidByText := true, laidKinds := [.funcs], laidTests := true, laidLooks := .later }
def TermsBetweenUptoCardSaid : Prop := Claim7.holds Tryd.pinned (.plain (OpenSpec.upto termsBetweenSpec)) termsBetweenUptoCard

/-- THE SECOND FORM's CARD OF 'middlinglaw04.TermsPaid'. -/
def termsPaidUptoCard : Claim7 := { stood := { row := termsPaidUptoRow, standIns := [], harness := (true, "7e62dff8bd6af8135f93d91aa25627fb3aa9122b54cebb38849e8b60be602c4f"), looks := false }, kinds := [], alts := [], laidByText := true, laidKinds := [.funcs], laidTests := true, laidLooks := .later }
def TermsPaidUptoCardSaid : Prop := Claim7.holds Tryd.pinned (.plain (OpenSpec.upto termsPaidSpec)) termsPaidUptoCard

/-- THE SECOND FORM's CARD OF 'middlinglaw04.TermsAsk'. -/
def termsAskUptoCard : Claim7 := { stood := { row := termsAskUptoRow, standIns := [], harness := (true, "7e62dff8bd6af8135f93d91aa25627fb3aa9122b54cebb38849e8b60be602c4f"), looks := false }, kinds := [], alts := [], laidByText := true, laidKinds := [.funcs], laidTests := true, laidLooks := .later }
def TermsAskUptoCardSaid : Prop := Claim7.holds Tryd.pinned (.plain (OpenSpec.upto termsAskSpec)) termsAskUptoCard

/-- THE SECOND FORM's CARD OF 'middlinglaw04.TermsSay'. -/
def termsSayUptoCard : Claim7 := { stood := { row := termsSayUptoRow, standIns := [], harness := (true, "7e62dff8bd6af8135f93d91aa25627fb3aa9122b54cebb38849e8b60be602c4f"), looks := false }, kinds := [], alts := [], laidByText := true, laidKinds := [.funcs], laidTests := true, laidLooks := .later }
def TermsSayUptoCardSaid : Prop := Claim7.holds Tryd.pinned (.plain (OpenSpec.upto termsSaySpec)) termsSayUptoCard

/-- THE SECOND FORM's CARD OF 'middlinglaw04.TermsCheap'. -/
def termsCheapUptoCard : Claim7 := { stood := { row := termsCheapUptoRow, standIns := [], harness := (true, "7e62dff8bd6af8135f93d91aa25627fb3aa9122b54cebb38849e8b60be602c4f"), looks := false }, kinds := [], alts := [], laidByText := true, laidKinds := [.funcs], laidTests := true, laidLooks := .later }
def TermsCheapUptoCardSaid : Prop := Claim7.holds Tryd.pinned (.plain (OpenSpec.upto termsCheapSpec)) termsCheapUptoCard

/-- THE SECOND FORM's CARD OF 'middlinglaw04.TermsBetter'. -/
def termsBetterUptoCard : Claim7 := { stood := { row := termsBetterUptoRow, standIns := [], harness := (true, "7e62dff8bd6af8135f93d91aa25627fb3aa9122b54cebb38849e8b60be602c4f"), looks := false }, kinds := [], alts := [], laidByText := true, laidKinds := [.funcs], laidTests := true, laidLooks := .later }
def TermsBetterUptoCardSaid : Prop := Claim7.holds Tryd.pinned (.plain (OpenSpec.upto termsBetterSpec)) termsBetterUptoCard

/-- THE SECOND FORM's CARD OF 'middlinglaw04.TermsRebased'. -/
def termsRebasedUptoCard : Claim7 := { stood := { row := termsRebasedUptoRow, standIns := [], harness := (true, "7e62dff8bd6af8135f93d91aa25627fb3aa9122b54cebb38849e8b60be602c4f"), looks := false }, kinds := [], alts := [], laidByText := true, laidKinds := [.funcs], laidTests := true, laidLooks := .later }
def TermsRebasedUptoCardSaid : Prop := Claim7.holds Tryd.pinned (.plain (OpenSpec.upto termsRebasedSpec)) termsRebasedUptoCard

/-- THE SECOND FORM's CARD OF 'middlinglaw04.TermsJoined'. -/
def termsJoinedUptoCard : Claim7 := { stood := { row := termsJoinedUptoRow, standIns := [], harness := (true, "7e62dff8bd6af8135f93d91aa25627fb3aa9122b54cebb38849e8b60be602c4f"), looks := false }, kinds := [], alts := [], laidByText := true, laidKinds := [.funcs], laidTests := true, laidLooks := .later }
def TermsJoinedUptoCardSaid : Prop := Claim7.holds Tryd.pinned (.plain (OpenSpec.upto termsJoinedSpec)) termsJoinedUptoCard

/-- THE SECOND FORM's CARD OF 'middlinglaw04.TermsSums'. -/
def termsSumsUptoCard : Claim7 := { stood := { row := termsSumsUptoRow, standIns := [], harness := (true, "7e62dff8bd6af8135f93d91aa25627fb3aa9122b54cebb38849e8b60be602c4f"), looks := false }, kinds := [], alts := [], laidByText := true, laidKinds := [.funcs], laidTests := true, laidLooks := .later }
def TermsSumsUptoCardSaid : Prop := Claim7.holds Tryd.pinned (.plain (OpenSpec.upto termsSumsSpec)) termsSumsUptoCard
end Rows
end Go.Proofs.YtppejcmjjjfamaaDoor
