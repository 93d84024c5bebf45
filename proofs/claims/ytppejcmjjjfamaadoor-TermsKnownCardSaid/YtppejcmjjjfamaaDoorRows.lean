/-
  NARROWER THAN 'FOR EVERY INPUT', by the rows' own cells (each row's printed sentence says how): TermsTells: laid · TermsTotals: laid · TermsMonths: laid · TermsKnown: laid · TermsChanges: laid · TermsCosts: laid · TermsLooks: laid · TermsExamples: laid · TermsBetween: laid · TermsPaid: laid · TermsAsk: laid · TermsSay: laid · TermsCheap: laid · TermsBetter: laid · TermsRebased: laid · TermsJoined: laid · TermsSums: laid.
  DERIVED. THE GIVEN ROWS OF THIS SEAT. 17 by the template 'for every input the law returns true; each argument reads behind the call as it read before'; 0 by the template 'total and deterministic' (their statements: YtppejcmjjjfamaaDoorTotals.lean).
  GIVEN WITH THE SEED: the statements are not yours to turn. If you find one false, say at which input.
  Laid BY PROGRAM, IN A SANDBOX (cutbox-rows.mjs): the forced cells as the released guide's own fill.sh prints them over the translation 73567ad6a904c3fb… (all of the seat's roots in one cut). By AI agents, Wed Nov 11 2026. No macro, syntax, notation, axiom, sorry.
-/
import Derived.Test.YtppejcmjjjfamaaDoorChecked
import GoSem.Claim
import GoSem.ClaimJoined
import GoSem.ClaimMapViews
import Derived.JoinedTies
import Derived.KernelRfl
namespace Go.Proofs.YtppejcmjjjfamaaDoor
/- THE CELL 'sum', in the pinned program and in every row, IS THE sha256 OF THE DUMP (.gsa) THAT YtppejcmjjjfamaaDoorProg.lean LOADS. Nothing in Lean hashes anything: it is a label: what it is worth is what the hold of that sum in a sandbox is worth. -/
noncomputable def Tryd.pinned : Pinned := { name := "ytppejcmjjjfamaadoor", sum := "73567ad6a904c3fb0ee0688ebaf96307f782cfa05a1b380de3896319cb8b2a1b", checked := Tryd.checked }
namespace Rows
def none {H : Type} : Left H := { results := [], args := [] }

/- WHAT THE LISTED PACKAGE-LEVEL VARIABLES READ AS WHEN THE CALL BEGINS. Each datum BY PROGRAM (the guide's laid-datum.mjs) off the statement by which the dump's own 'gosem.cut.vars' lays the variable. In a bare row this is a premise. The card (YtppejcmjjjfamaaDoorCards.lean) ties it to the program's text. -/
def laid_middling_terms_checks {H : Type} : DataW H := .iface "func table" (.agg [.agg [.iface "func" (.lit (.string [109, 105, 100, 100, 108, 105, 110, 103, 47, 116, 101, 114, 109, 115, 46, 99, 104, 101, 99, 107, 115, 36, 49]))], .agg [.iface "func" (.lit (.string [109, 105, 100, 100, 108, 105, 110, 103, 47, 116, 101, 114, 109, 115, 46, 99, 104, 101, 99, 107, 115, 36, 50]))], .agg [.iface "func" (.lit (.string [109, 105, 100, 100, 108, 105, 110, 103, 47, 116, 101, 114, 109, 115, 46, 99, 104, 101, 99, 107, 115, 36, 51]))], .agg [.iface "func" (.lit (.string [109, 105, 100, 100, 108, 105, 110, 103, 47, 116, 101, 114, 109, 115, 46, 99, 104, 101, 99, 107, 115, 36, 52]))], .agg [.iface "func" (.lit (.string [109, 105, 100, 100, 108, 105, 110, 103, 47, 116, 101, 114, 109, 115, 46, 99, 104, 101, 99, 107, 115, 36, 53]))]])

/-- 'middlinglaw04.TermsTells': WHATEVER THE INPUT: true; the input reads as it did. -/
def termsTellsSpec : ChangeSpec := { name := "termsTells", fn := fun _ => fun
  | [d1, d2, d3] => { results := [.lit (.bool true)], args := [d1, d2, d3] }
  | _ => none }
def termsTellsRow : OpenClaim := { program := "ytppejcmjjjfamaadoor", sum := "73567ad6a904c3fb0ee0688ebaf96307f782cfa05a1b380de3896319cb8b2a1b", func := "middling/middlinglaw04.TermsTells", spec := "termsTells", unfollowed := true, recurses := true, named := ["middling/terms.checks"], apart := false, laid := [("middling/terms.checks", laid_middling_terms_checks)] }
def TermsTellsSaid : Prop := termsTellsRow.holds Tryd.pinned (OpenSpec.ofChange termsTellsSpec)

/-- ITS FALSE NEIGHBOUR: 'it returns false'. Refute it at one input. -/
def termsTellsWrong : ChangeSpec := { name := "termsTells", fn := fun _ => fun
  | [d1, d2, d3] => { results := [.lit (.bool false)], args := [d1, d2, d3] }
  | _ => none }
def TermsTellsWrongFalsely : Prop := termsTellsRow.holds Tryd.pinned (OpenSpec.ofChange termsTellsWrong)

/-- 'middlinglaw04.TermsTotals': WHATEVER THE INPUT: true; the input reads as it did. -/
def termsTotalsSpec : ChangeSpec := { name := "termsTotals", fn := fun _ => fun
  | [d1, d2, d3] => { results := [.lit (.bool true)], args := [d1, d2, d3] }
  | _ => none }
def termsTotalsRow : OpenClaim := { program := "ytppejcmjjjfamaadoor", sum := "73567ad6a904c3fb0ee0688ebaf96307f782cfa05a1b380de3896319cb8b2a1b", func := "middling/middlinglaw04.TermsTotals", spec := "termsTotals", unfollowed := true, recurses := true, named := ["middling/terms.checks"], apart := false, laid := [("middling/terms.checks", laid_middling_terms_checks)] }
def TermsTotalsSaid : Prop := termsTotalsRow.holds Tryd.pinned (OpenSpec.ofChange termsTotalsSpec)

/-- ITS FALSE NEIGHBOUR: 'it returns false'. Refute it at one input. -/
def termsTotalsWrong : ChangeSpec := { name := "termsTotals", fn := fun _ => fun
  | [d1, d2, d3] => { results := [.lit (.bool false)], args := [d1, d2, d3] }
  | _ => none }
def TermsTotalsWrongFalsely : Prop := termsTotalsRow.holds Tryd.pinned (OpenSpec.ofChange termsTotalsWrong)

/-- 'middlinglaw04.TermsMonths': WHATEVER THE INPUT: true; the input reads as it did. -/
def termsMonthsSpec : ChangeSpec := { name := "termsMonths", fn := fun _ => fun
  | [d1, d2] => { results := [.lit (.bool true)], args := [d1, d2] }
  | _ => none }
def termsMonthsRow : OpenClaim := { program := "ytppejcmjjjfamaadoor", sum := "73567ad6a904c3fb0ee0688ebaf96307f782cfa05a1b380de3896319cb8b2a1b", func := "middling/middlinglaw04.TermsMonths", spec := "termsMonths", unfollowed := true, recurses := true, named := ["middling/terms.checks"], apart := false, laid := [("middling/terms.checks", laid_middling_terms_checks)] }
def TermsMonthsSaid : Prop := termsMonthsRow.holds Tryd.pinned (OpenSpec.ofChange termsMonthsSpec)

/-- ITS FALSE NEIGHBOUR: 'it returns false'. Refute it at one input. -/
def termsMonthsWrong : ChangeSpec := { name := "termsMonths", fn := fun _ => fun
  | [d1, d2] => { results := [.lit (.bool false)], args := [d1, d2] }
  | _ => none }
def TermsMonthsWrongFalsely : Prop := termsMonthsRow.holds Tryd.pinned (OpenSpec.ofChange termsMonthsWrong)

/-- 'middlinglaw04.TermsKnown': WHATEVER THE INPUT: true; the input reads as it did. -/
def termsKnownSpec : ChangeSpec := { name := "termsKnown", fn := fun _ => fun
  | [d1, d2, d3, d4] => { results := [.lit (.bool true)], args := [d1, d2, d3, d4] }
  | _ => none }
def termsKnownRow : OpenClaim := { program := "ytppejcmjjjfamaadoor", sum := "73567ad6a904c3fb0ee0688ebaf96307f782cfa05a1b380de3896319cb8b2a1b", func := "middling/middlinglaw04.TermsKnown", spec := "termsKnown", unfollowed := true, recurses := true, named := ["middling/terms.checks"], apart := false, laid := [("middling/terms.checks", laid_middling_terms_checks)] }
def TermsKnownSaid : Prop := termsKnownRow.holds Tryd.pinned (OpenSpec.ofChange termsKnownSpec)

/-- ITS FALSE NEIGHBOUR: 'it returns false'. Refute it at one input. -/
def termsKnownWrong : ChangeSpec := { name := "termsKnown", fn := fun _ => fun
  | [d1, d2, d3, d4] => { results := [.lit (.bool false)], args := [d1, d2, d3, d4] }
  | _ => none }
def TermsKnownWrongFalsely : Prop := termsKnownRow.holds Tryd.pinned (OpenSpec.ofChange termsKnownWrong)

/-- 'middlinglaw04.TermsChanges': WHATEVER THE INPUT: true; the input reads as it did. -/
def termsChangesSpec : ChangeSpec := { name := "termsChanges", fn := fun _ => fun
  | [d1, d2, d3, d4, d5, d6] => { results := [.lit (.bool true)], args := [d1, d2, d3, d4, d5, d6] }
  | _ => none }
def termsChangesRow : OpenClaim := { program := "ytppejcmjjjfamaadoor", sum := "73567ad6a904c3fb0ee0688ebaf96307f782cfa05a1b380de3896319cb8b2a1b", func := "middling/middlinglaw04.TermsChanges", spec := "termsChanges", unfollowed := true, recurses := true, named := ["middling/terms.checks"], apart := false, laid := [("middling/terms.checks", laid_middling_terms_checks)] }
def TermsChangesSaid : Prop := termsChangesRow.holds Tryd.pinned (OpenSpec.ofChange termsChangesSpec)

/-- ITS FALSE NEIGHBOUR: 'it returns false'. Refute it at one input. -/
def termsChangesWrong : ChangeSpec := { name := "termsChanges", fn := fun _ => fun
  | [d1, d2, d3, d4, d5, d6] => { results := [.lit (.bool false)], args := [d1, d2, d3, d4, d5, d6] }
  | _ => none }
def TermsChangesWrongFalsely : Prop := termsChangesRow.holds Tryd.pinned (OpenSpec.ofChange termsChangesWrong)

/-- 'middlinglaw04.TermsCosts': WHATEVER THE INPUT: true; the input reads as it did. -/
def termsCostsSpec : ChangeSpec := { name := "termsCosts", fn := fun _ => fun
  | [d1, d2, d3] => { results := [.lit (.bool true)], args := [d1, d2, d3] }
  | _ => none }
def termsCostsRow : OpenClaim := { program := "ytppejcmjjjfamaadoor", sum := "73567ad6a904c3fb0ee0688ebaf96307f782cfa05a1b380de3896319cb8b2a1b", func := "middling/middlinglaw04.TermsCosts", spec := "termsCosts", unfollowed := true, recurses := true, named := ["middling/terms.checks"], apart := false, laid := [("middling/terms.checks", laid_middling_terms_checks)] }
def TermsCostsSaid : Prop := termsCostsRow.holds Tryd.pinned (OpenSpec.ofChange termsCostsSpec)

/-- ITS FALSE NEIGHBOUR: 'it returns false'. Refute it at one input. -/
def termsCostsWrong : ChangeSpec := { name := "termsCosts", fn := fun _ => fun
  | [d1, d2, d3] => { results := [.lit (.bool false)], args := [d1, d2, d3] }
  | _ => none }
def TermsCostsWrongFalsely : Prop := termsCostsRow.holds Tryd.pinned (OpenSpec.ofChange termsCostsWrong)

/-- 'middlinglaw04.TermsLooks': WHATEVER THE INPUT: true; the input reads as it did. -/
def termsLooksSpec : ChangeSpec := { name := "termsLooks", fn := fun _ => fun
  | [d1, d2, d3, d4, d5, d6] => { results := [.lit (.bool true)], args := [d1, d2, d3, d4, d5, d6] }
  | _ => none }
def termsLooksRow : OpenClaim := { program := "ytppejcmjjjfamaadoor", sum := "73567ad6a904c3fb0ee0688ebaf96307f782cfa05a1b380de3896319cb8b2a1b", func := "middling/middlinglaw04.TermsLooks", spec := "termsLooks", unfollowed := true, recurses := true, named := ["middling/terms.checks"], apart := false, laid := [("middling/terms.checks", laid_middling_terms_checks)] }
def TermsLooksSaid : Prop := termsLooksRow.holds Tryd.pinned (OpenSpec.ofChange termsLooksSpec)

/-- ITS FALSE NEIGHBOUR: 'it returns false'. Refute it at one input. -/
def termsLooksWrong : ChangeSpec := { name := "termsLooks", fn := fun _ => fun
  | [d1, d2, d3, d4, d5, d6] => { results := [.lit (.bool false)], args := [d1, d2, d3, d4, d5, d6] }
  | _ => none }
def TermsLooksWrongFalsely : Prop := termsLooksRow.holds Tryd.pinned (OpenSpec.ofChange termsLooksWrong)

/-- 'middlinglaw04.TermsExamples': WHATEVER THE INPUT: true; the input reads as it did. -/
def termsExamplesSpec : ChangeSpec := { name := "termsExamples", fn := fun _ => fun
  | [] => { results := [.lit (.bool true)], args := [] }
  | _ => none }
def termsExamplesRow : OpenClaim := { program := "ytppejcmjjjfamaadoor", sum := "73567ad6a904c3fb0ee0688ebaf96307f782cfa05a1b380de3896319cb8b2a1b", func := "middling/middlinglaw04.TermsExamples", spec := "termsExamples", unfollowed := true, recurses := true, named := ["middling/terms.checks"], apart := false, laid := [("middling/terms.checks", laid_middling_terms_checks)] }
def TermsExamplesSaid : Prop := termsExamplesRow.holds Tryd.pinned (OpenSpec.ofChange termsExamplesSpec)

/-- ITS FALSE NEIGHBOUR: 'it returns false'. Refute it at one input. -/
def termsExamplesWrong : ChangeSpec := { name := "termsExamples", fn := fun _ => fun
  | [] => { results := [.lit (.bool false)], args := [] }
  | _ => none }
def TermsExamplesWrongFalsely : Prop := termsExamplesRow.holds Tryd.pinned (OpenSpec.ofChange termsExamplesWrong)

/-- 'middlinglaw04.TermsBetween': WHATEVER THE INPUT: true; the input reads as it did. -/
def termsBetweenSpec : ChangeSpec := { name := "termsBetween", fn := fun _ => fun
  | [d1, d2, d3] => { results := [.lit (.bool true)], args := [d1, d2, d3] }
  | _ => none }
def termsBetweenRow : OpenClaim := { program := "ytppejcmjjjfamaadoor", sum := "73567ad6a904c3fb0ee0688ebaf96307f782cfa05a1b380de3896319cb8b2a1b", func := "middling/middlinglaw04.TermsBetween", spec := "termsBetween", unfollowed := true, recurses := true, named := ["middling/terms.checks"], apart := false, laid := [("middling/terms.checks", laid_middling_terms_checks)] }
def TermsBetweenSaid : Prop := termsBetweenRow.holds Tryd.pinned (OpenSpec.ofChange termsBetweenSpec)

/-- ITS FALSE NEIGHBOUR: 'it returns false'. Refute it at one input. -/
def termsBetweenWrong : ChangeSpec := { name := "termsBetween", fn := fun _ => fun
  | [d1, d2, d3] => { results := [.lit (.bool false)], args := [d1, d2, d3] }
  | _ => none }
def TermsBetweenWrongFalsely : Prop := termsBetweenRow.holds Tryd.pinned (OpenSpec.ofChange termsBetweenWrong)

/-- 'middlinglaw04.TermsPaid': WHATEVER THE INPUT: true; the input reads as it did. -/
def termsPaidSpec : ChangeSpec := { name := "termsPaid", fn := fun _ => fun
  | [d1, d2, d3, d4, d5] => { results := [.lit (.bool true)], args := [d1, d2, d3, d4, d5] }
  | _ => none }
def termsPaidRow : OpenClaim := { program := "ytppejcmjjjfamaadoor", sum := "73567ad6a904c3fb0ee0688ebaf96307f782cfa05a1b380de3896319cb8b2a1b", func := "middling/middlinglaw04.TermsPaid", spec := "termsPaid", unfollowed := true, recurses := true, named := ["middling/terms.checks"], apart := false, laid := [("middling/terms.checks", laid_middling_terms_checks)] }
def TermsPaidSaid : Prop := termsPaidRow.holds Tryd.pinned (OpenSpec.ofChange termsPaidSpec)

/-- ITS FALSE NEIGHBOUR: 'it returns false'. Refute it at one input. -/
def termsPaidWrong : ChangeSpec := { name := "termsPaid", fn := fun _ => fun
  | [d1, d2, d3, d4, d5] => { results := [.lit (.bool false)], args := [d1, d2, d3, d4, d5] }
  | _ => none }
def TermsPaidWrongFalsely : Prop := termsPaidRow.holds Tryd.pinned (OpenSpec.ofChange termsPaidWrong)

/-- 'middlinglaw04.TermsAsk': WHATEVER THE INPUT: true; the input reads as it did. -/
def termsAskSpec : ChangeSpec := { name := "termsAsk", fn := fun _ => fun
  | [d1, d2, d3, d4] => { results := [.lit (.bool true)], args := [d1, d2, d3, d4] }
  | _ => none }
def termsAskRow : OpenClaim := { program := "ytppejcmjjjfamaadoor", sum := "73567ad6a904c3fb0ee0688ebaf96307f782cfa05a1b380de3896319cb8b2a1b", func := "middling/middlinglaw04.TermsAsk", spec := "termsAsk", unfollowed := true, recurses := true, named := ["middling/terms.checks"], apart := false, laid := [("middling/terms.checks", laid_middling_terms_checks)] }
def TermsAskSaid : Prop := termsAskRow.holds Tryd.pinned (OpenSpec.ofChange termsAskSpec)

/-- ITS FALSE NEIGHBOUR: 'it returns false'. Refute it at one input. -/
def termsAskWrong : ChangeSpec := { name := "termsAsk", fn := fun _ => fun
  | [d1, d2, d3, d4] => { results := [.lit (.bool false)], args := [d1, d2, d3, d4] }
  | _ => none }
def TermsAskWrongFalsely : Prop := termsAskRow.holds Tryd.pinned (OpenSpec.ofChange termsAskWrong)

/-- 'middlinglaw04.TermsSay': WHATEVER THE INPUT: true; the input reads as it did. -/
def termsSaySpec : ChangeSpec := { name := "termsSay", fn := fun _ => fun
  | [d1, d2, d3, d4, d5] => { results := [.lit (.bool true)], args := [d1, d2, d3, d4, d5] }
  | _ => none }
def termsSayRow : OpenClaim := { program := "ytppejcmjjjfamaadoor", sum := "73567ad6a904c3fb0ee0688ebaf96307f782cfa05a1b380de3896319cb8b2a1b", func := "middling/middlinglaw04.TermsSay", spec := "termsSay", unfollowed := true, recurses := true, named := ["middling/terms.checks"], apart := false, laid := [("middling/terms.checks", laid_middling_terms_checks)] }
def TermsSaySaid : Prop := termsSayRow.holds Tryd.pinned (OpenSpec.ofChange termsSaySpec)

/-- ITS FALSE NEIGHBOUR: 'it returns false'. Refute it at one input. -/
def termsSayWrong : ChangeSpec := { name := "termsSay", fn := fun _ => fun
  | [d1, d2, d3, d4, d5] => { results := [.lit (.bool false)], args := [d1, d2, d3, d4, d5] }
  | _ => none }
def TermsSayWrongFalsely : Prop := termsSayRow.holds Tryd.pinned (OpenSpec.ofChange termsSayWrong)

/-- 'middlinglaw04.TermsCheap': WHATEVER THE INPUT: true; the input reads as it did. -/
def termsCheapSpec : ChangeSpec := { name := "termsCheap", fn := fun _ => fun
  | [d1, d2, d3, d4, d5] => { results := [.lit (.bool true)], args := [d1, d2, d3, d4, d5] }
  | _ => none }
def termsCheapRow : OpenClaim := { program := "ytppejcmjjjfamaadoor", sum := "73567ad6a904c3fb0ee0688ebaf96307f782cfa05a1b380de3896319cb8b2a1b", func := "middling/middlinglaw04.TermsCheap", spec := "termsCheap", unfollowed := true, recurses := true, named := ["middling/terms.checks"], apart := false, laid := [("middling/terms.checks", laid_middling_terms_checks)] }
def TermsCheapSaid : Prop := termsCheapRow.holds Tryd.pinned (OpenSpec.ofChange termsCheapSpec)

/-- ITS FALSE NEIGHBOUR: 'it returns false'. Refute it at one input. -/
def termsCheapWrong : ChangeSpec := { name := "termsCheap", fn := fun _ => fun
  | [d1, d2, d3, d4, d5] => { results := [.lit (.bool false)], args := [d1, d2, d3, d4, d5] }
  | _ => none }
def TermsCheapWrongFalsely : Prop := termsCheapRow.holds Tryd.pinned (OpenSpec.ofChange termsCheapWrong)

/-- 'middlinglaw04.TermsBetter': WHATEVER THE INPUT: true; the input reads as it did. -/
def termsBetterSpec : ChangeSpec := { name := "termsBetter", fn := fun _ => fun
  | [d1, d2, d3] => { results := [.lit (.bool true)], args := [d1, d2, d3] }
  | _ => none }
def termsBetterRow : OpenClaim := { program := "ytppejcmjjjfamaadoor", sum := "73567ad6a904c3fb0ee0688ebaf96307f782cfa05a1b380de3896319cb8b2a1b", func := "middling/middlinglaw04.TermsBetter", spec := "termsBetter", unfollowed := true, recurses := true, named := ["middling/terms.checks"], apart := false, laid := [("middling/terms.checks", laid_middling_terms_checks)] }
def TermsBetterSaid : Prop := termsBetterRow.holds Tryd.pinned (OpenSpec.ofChange termsBetterSpec)

/-- ITS FALSE NEIGHBOUR: 'it returns false'. Refute it at one input. -/
def termsBetterWrong : ChangeSpec := { name := "termsBetter", fn := fun _ => fun
  | [d1, d2, d3] => { results := [.lit (.bool false)], args := [d1, d2, d3] }
  | _ => none }
def TermsBetterWrongFalsely : Prop := termsBetterRow.holds Tryd.pinned (OpenSpec.ofChange termsBetterWrong)

/-- 'middlinglaw04.TermsRebased': WHATEVER THE INPUT: true; the input reads as it did. -/
def termsRebasedSpec : ChangeSpec := { name := "termsRebased", fn := fun _ => fun
  | [d1, d2] => { results := [.lit (.bool true)], args := [d1, d2] }
  | _ => none }
def termsRebasedRow : OpenClaim := { program := "ytppejcmjjjfamaadoor", sum := "73567ad6a904c3fb0ee0688ebaf96307f782cfa05a1b380de3896319cb8b2a1b", func := "middling/middlinglaw04.TermsRebased", spec := "termsRebased", unfollowed := true, recurses := true, named := ["middling/terms.checks"], apart := false, laid := [("middling/terms.checks", laid_middling_terms_checks)] }
def TermsRebasedSaid : Prop := termsRebasedRow.holds Tryd.pinned (OpenSpec.ofChange termsRebasedSpec)

/-- ITS FALSE NEIGHBOUR: 'it returns false'. Refute it at one input. -/
def termsRebasedWrong : ChangeSpec := { name := "termsRebased", fn := fun _ => fun
  | [d1, d2] => { results := [.lit (.bool false)], args := [d1, d2] }
  | _ => none }
def TermsRebasedWrongFalsely : Prop := termsRebasedRow.holds Tryd.pinned (OpenSpec.ofChange termsRebasedWrong)

/-- 'middlinglaw04.TermsJoined': WHATEVER THE INPUT: true; the input reads as it did. -/
def termsJoinedSpec : ChangeSpec := { name := "termsJoined", fn := fun _ => fun
  | [d1, d2, d3, d4, d5] => { results := [.lit (.bool true)], args := [d1, d2, d3, d4, d5] }
  | _ => none }
def termsJoinedRow : OpenClaim := { program := "ytppejcmjjjfamaadoor", sum := "73567ad6a904c3fb0ee0688ebaf96307f782cfa05a1b380de3896319cb8b2a1b", func := "middling/middlinglaw04.TermsJoined", spec := "termsJoined", unfollowed := true, recurses := true, named := ["middling/terms.checks"], apart := false, laid := [("middling/terms.checks", laid_middling_terms_checks)] }
def TermsJoinedSaid : Prop := termsJoinedRow.holds Tryd.pinned (OpenSpec.ofChange termsJoinedSpec)

/-- ITS FALSE NEIGHBOUR: 'it returns false'. Refute it at one input. -/
def termsJoinedWrong : ChangeSpec := { name := "termsJoined", fn := fun _ => fun
  | [d1, d2, d3, d4, d5] => { results := [.lit (.bool false)], args := [d1, d2, d3, d4, d5] }
  | _ => none }
def TermsJoinedWrongFalsely : Prop := termsJoinedRow.holds Tryd.pinned (OpenSpec.ofChange termsJoinedWrong)

/-- 'middlinglaw04.TermsSums': WHATEVER THE INPUT: true; the input reads as it did. -/
def termsSumsSpec : ChangeSpec := { name := "termsSums", fn := fun _ => fun
  | [d1, d2, d3] => { results := [.lit (.bool true)], args := [d1, d2, d3] }
  | _ => none }
def termsSumsRow : OpenClaim := { program := "ytppejcmjjjfamaadoor", sum := "73567ad6a904c3fb0ee0688ebaf96307f782cfa05a1b380de3896319cb8b2a1b", func := "middling/middlinglaw04.TermsSums", spec := "termsSums", unfollowed := true, recurses := true, named := ["middling/terms.checks"], apart := false, laid := [("middling/terms.checks", laid_middling_terms_checks)] }
def TermsSumsSaid : Prop := termsSumsRow.holds Tryd.pinned (OpenSpec.ofChange termsSumsSpec)

/-- ITS FALSE NEIGHBOUR: 'it returns false'. Refute it at one input. -/
def termsSumsWrong : ChangeSpec := { name := "termsSums", fn := fun _ => fun
  | [d1, d2, d3] => { results := [.lit (.bool false)], args := [d1, d2, d3] }
  | _ => none }
def TermsSumsWrongFalsely : Prop := termsSumsRow.holds Tryd.pinned (OpenSpec.ofChange termsSumsWrong)

/- THE SECOND FORM. 'bulk': how many values and letters a reading holds, each counted each time it is reached (what is shared counts as often as it is met; a slice's spare places count too). A statement '..UptoSaid' is the law's where the arguments, and the package variables that the reading takes, are together of bulk at most 1048576: NARROWER than '..Said'. Prove '..Said' where nothing that the law and all that it calls make is longer than what came in: it says more and counts as full. Else prove '..UptoSaid'. A law counts once. -/
mutual
def uptoBulk {H : Type} : DataW H → Nat
  | .lit (.string bytes) => bytes.length + 1
  | .lit _ => 1
  | .nil => 1
  | .ptr d => uptoBulk d + 1
  | .slice elems spare => uptoBulkAll elems + uptoBulkAll spare + 1
  | .agg parts => uptoBulkAll parts + 1
  | .iface _ d => uptoBulk d + 1
  | .map entries => uptoBulkEntries entries + 1
  | .held _ => 1
def uptoBulkAll {H : Type} : List (DataW H) → Nat
  | [] => 0
  | d :: r => uptoBulk d + uptoBulkAll r
def uptoBulkEntries {H : Type} : List (Lit × DataW H) → Nat
  | [] => 0
  | x :: r => uptoBulkEntry x + uptoBulkEntries r
def uptoBulkEntry {H : Type} : Lit × DataW H → Nat
  | (.string bytes, d) => bytes.length + uptoBulk d + 1
  | (_, d) => uptoBulk d + 1
 end
def uptoSmall : (H : Type) → List (DataW H) → Bool := fun _ ds => decide (uptoBulkAll ds ≤ 1048576)
def OpenSpec.upto (s : _root_.Go.ChangeSpec) : _root_.Go.OpenSpec := { _root_.Go.OpenSpec.ofChange s with cond := some uptoSmall }

/-- 'middlinglaw04.TermsTells', WHERE WHAT IT READS IS OF BULK AT MOST 1048576: true; the input reads as it did. -/
def termsTellsUptoRow : OpenClaim := { program := "ytppejcmjjjfamaadoor", sum := "73567ad6a904c3fb0ee0688ebaf96307f782cfa05a1b380de3896319cb8b2a1b", func := "middling/middlinglaw04.TermsTells", spec := "termsTells", unfollowed := true, recurses := true, named := ["middling/terms.checks"], apart := false, laid := [("middling/terms.checks", laid_middling_terms_checks)], narrowed := true }
def TermsTellsUptoSaid : Prop := termsTellsUptoRow.holds Tryd.pinned (OpenSpec.upto termsTellsSpec)

/-- 'middlinglaw04.TermsTotals', WHERE WHAT IT READS IS OF BULK AT MOST 1048576: true; the input reads as it did. -/
def termsTotalsUptoRow : OpenClaim := { program := "ytppejcmjjjfamaadoor", sum := "73567ad6a904c3fb0ee0688ebaf96307f782cfa05a1b380de3896319cb8b2a1b", func := "middling/middlinglaw04.TermsTotals", spec := "termsTotals", unfollowed := true, recurses := true, named := ["middling/terms.checks"], apart := false, laid := [("middling/terms.checks", laid_middling_terms_checks)], narrowed := true }
def TermsTotalsUptoSaid : Prop := termsTotalsUptoRow.holds Tryd.pinned (OpenSpec.upto termsTotalsSpec)

/-- 'middlinglaw04.TermsMonths', WHERE WHAT IT READS IS OF BULK AT MOST 1048576: true; the input reads as it did. -/
def termsMonthsUptoRow : OpenClaim := { program := "ytppejcmjjjfamaadoor", sum := "73567ad6a904c3fb0ee0688ebaf96307f782cfa05a1b380de3896319cb8b2a1b", func := "middling/middlinglaw04.TermsMonths", spec := "termsMonths", unfollowed := true, recurses := true, named := ["middling/terms.checks"], apart := false, laid := [("middling/terms.checks", laid_middling_terms_checks)], narrowed := true }
def TermsMonthsUptoSaid : Prop := termsMonthsUptoRow.holds Tryd.pinned (OpenSpec.upto termsMonthsSpec)

/-- 'middlinglaw04.TermsKnown', WHERE WHAT IT READS IS OF BULK AT MOST 1048576: true; the input reads as it did. -/
def termsKnownUptoRow : OpenClaim := { program := "ytppejcmjjjfamaadoor", sum := "73567ad6a904c3fb0ee0688ebaf96307f782cfa05a1b380de3896319cb8b2a1b", func := "middling/middlinglaw04.TermsKnown", spec := "termsKnown", unfollowed := true, recurses := true, named := ["middling/terms.checks"], apart := false, laid := [("middling/terms.checks", laid_middling_terms_checks)], narrowed := true }
def TermsKnownUptoSaid : Prop := termsKnownUptoRow.holds Tryd.pinned (OpenSpec.upto termsKnownSpec)

/-- 'middlinglaw04.TermsChanges', WHERE WHAT IT READS IS OF BULK AT MOST 1048576: true; the input reads as it did. -/
def termsChangesUptoRow : OpenClaim := { program := "ytppejcmjjjfamaadoor", sum := "73567ad6a904c3fb0ee0688ebaf96307f782cfa05a1b380de3896319cb8b2a1b", func := "middling/middlinglaw04.TermsChanges", spec := "termsChanges", unfollowed := true, recurses := true, named := ["middling/terms.checks"], apart := false, laid := [("middling/terms.checks", laid_middling_terms_checks)], narrowed := true }
def TermsChangesUptoSaid : Prop := termsChangesUptoRow.holds Tryd.pinned (OpenSpec.upto termsChangesSpec)

/-- 'middlinglaw04.TermsCosts', WHERE WHAT IT READS IS OF BULK AT MOST 1048576: true; the input reads as it did. -/
def termsCostsUptoRow : OpenClaim := { program := "ytppejcmjjjfamaadoor", sum := "73567ad6a904c3fb0ee0688ebaf96307f782cfa05a1b380de3896319cb8b2a1b", func := "middling/middlinglaw04.TermsCosts", spec := "termsCosts", unfollowed := true, recurses := true, named := ["middling/terms.checks"], apart := false, laid := [("middling/terms.checks", laid_middling_terms_checks)], narrowed := true }
def TermsCostsUptoSaid : Prop := termsCostsUptoRow.holds Tryd.pinned (OpenSpec.upto termsCostsSpec)

/-- 'middlinglaw04.TermsLooks', WHERE WHAT IT READS IS OF BULK AT MOST 1048576: true; the input reads as it did. -/
def termsLooksUptoRow : OpenClaim := { program := "ytppejcmjjjfamaadoor", sum := "73567ad6a904c3fb0ee0688ebaf96307f782cfa05a1b380de3896319cb8b2a1b", func := "middling/middlinglaw04.TermsLooks", spec := "termsLooks", unfollowed := true, recurses := true, named := ["middling/terms.checks"], apart := false, laid := [("middling/terms.checks", laid_middling_terms_checks)], narrowed := true }
def TermsLooksUptoSaid : Prop := termsLooksUptoRow.holds Tryd.pinned (OpenSpec.upto termsLooksSpec)

/-- 'middlinglaw04.TermsExamples', WHERE WHAT IT READS IS OF BULK AT MOST 1048576: true; the input reads as it did. -/
def termsExamplesUptoRow : OpenClaim := { program := "ytppejcmjjjfamaadoor", sum := "73567ad6a904c3fb0ee0688ebaf96307f782cfa05a1b380de3896319cb8b2a1b", func := "middling/middlinglaw04.TermsExamples", spec := "termsExamples", unfollowed := true, recurses := true, named := ["middling/terms.checks"], apart := false, laid := [("middling/terms.checks", laid_middling_terms_checks)], narrowed := true }
def TermsExamplesUptoSaid : Prop := termsExamplesUptoRow.holds Tryd.pinned (OpenSpec.upto termsExamplesSpec)

/-- 'middlinglaw04.TermsBetween', WHERE WHAT IT READS IS OF BULK AT MOST 1048576: true; the input reads as it did. -/
def termsBetweenUptoRow : OpenClaim := { program := "ytppejcmjjjfamaadoor", sum := "73567ad6a904c3fb0ee0688ebaf96307f782cfa05a1b380de3896319cb8b2a1b", func := "middling/middlinglaw04.TermsBetween", spec := "termsBetween", unfollowed := true, recurses := true, named := ["middling/terms.checks"], apart := false, laid := [("middling/terms.checks", laid_middling_terms_checks)], narrowed := true }
def TermsBetweenUptoSaid : Prop := termsBetweenUptoRow.holds Tryd.pinned (OpenSpec.upto termsBetweenSpec)

/-- 'middlinglaw04.TermsPaid', WHERE WHAT IT READS IS OF BULK AT MOST 1048576: true; the input reads as it did. -/
def termsPaidUptoRow : OpenClaim := { program := "ytppejcmjjjfamaadoor", sum := "73567ad6a904c3fb0ee0688ebaf96307f782cfa05a1b380de3896319cb8b2a1b", func := "middling/middlinglaw04.TermsPaid", spec := "termsPaid", unfollowed := true, recurses := true, named := ["middling/terms.checks"], apart := false, laid := [("middling/terms.checks", laid_middling_terms_checks)], narrowed := true }
def TermsPaidUptoSaid : Prop := termsPaidUptoRow.holds Tryd.pinned (OpenSpec.upto termsPaidSpec)

/-- 'middlinglaw04.TermsAsk', WHERE WHAT IT READS IS OF BULK AT MOST 1048576: true; the input reads as it did. -/
def termsAskUptoRow : OpenClaim := { program := "ytppejcmjjjfamaadoor", sum := "73567ad6a904c3fb0ee0688ebaf96307f782cfa05a1b380de3896319cb8b2a1b", func := "middling/middlinglaw04.TermsAsk", spec := "termsAsk", unfollowed := true, recurses := true, named := ["middling/terms.checks"], apart := false, laid := [("middling/terms.checks", laid_middling_terms_checks)], narrowed := true }
def TermsAskUptoSaid : Prop := termsAskUptoRow.holds Tryd.pinned (OpenSpec.upto termsAskSpec)

/-- 'middlinglaw04.TermsSay', WHERE WHAT IT READS IS OF BULK AT MOST 1048576: true; the input reads as it did. -/
def termsSayUptoRow : OpenClaim := { program := "ytppejcmjjjfamaadoor", sum := "73567ad6a904c3fb0ee0688ebaf96307f782cfa05a1b380de3896319cb8b2a1b", func := "middling/middlinglaw04.TermsSay", spec := "termsSay", unfollowed := true, recurses := true, named := ["middling/terms.checks"], apart := false, laid := [("middling/terms.checks", laid_middling_terms_checks)], narrowed := true }
def TermsSayUptoSaid : Prop := termsSayUptoRow.holds Tryd.pinned (OpenSpec.upto termsSaySpec)

/-- 'middlinglaw04.TermsCheap', WHERE WHAT IT READS IS OF BULK AT MOST 1048576: true; the input reads as it did. -/
def termsCheapUptoRow : OpenClaim := { program := "ytppejcmjjjfamaadoor", sum := "73567ad6a904c3fb0ee0688ebaf96307f782cfa05a1b380de3896319cb8b2a1b", func := "middling/middlinglaw04.TermsCheap", spec := "termsCheap", unfollowed := true, recurses := true, named := ["middling/terms.checks"], apart := false, laid := [("middling/terms.checks", laid_middling_terms_checks)], narrowed := true }
def TermsCheapUptoSaid : Prop := termsCheapUptoRow.holds Tryd.pinned (OpenSpec.upto termsCheapSpec)

/-- 'middlinglaw04.TermsBetter', WHERE WHAT IT READS IS OF BULK AT MOST 1048576: true; the input reads as it did. -/
def termsBetterUptoRow : OpenClaim := { program := "ytppejcmjjjfamaadoor", sum := "73567ad6a904c3fb0ee0688ebaf96307f782cfa05a1b380de3896319cb8b2a1b", func := "middling/middlinglaw04.TermsBetter", spec := "termsBetter", unfollowed := true, recurses := true, named := ["middling/terms.checks"], apart := false, laid := [("middling/terms.checks", laid_middling_terms_checks)], narrowed := true }
def TermsBetterUptoSaid : Prop := termsBetterUptoRow.holds Tryd.pinned (OpenSpec.upto termsBetterSpec)

/-- 'middlinglaw04.TermsRebased', WHERE WHAT IT READS IS OF BULK AT MOST 1048576: true; the input reads as it did. -/
def termsRebasedUptoRow : OpenClaim := { program := "ytppejcmjjjfamaadoor", sum := "73567ad6a904c3fb0ee0688ebaf96307f782cfa05a1b380de3896319cb8b2a1b", func := "middling/middlinglaw04.TermsRebased", spec := "termsRebased", unfollowed := true, recurses := true, named := ["middling/terms.checks"], apart := false, laid := [("middling/terms.checks", laid_middling_terms_checks)], narrowed := true }
def TermsRebasedUptoSaid : Prop := termsRebasedUptoRow.holds Tryd.pinned (OpenSpec.upto termsRebasedSpec)

/-- 'middlinglaw04.TermsJoined', WHERE WHAT IT READS IS OF BULK AT MOST 1048576: true; the input reads as it did. -/
def termsJoinedUptoRow : OpenClaim := { program := "ytppejcmjjjfamaadoor", sum := "73567ad6a904c3fb0ee0688ebaf96307f782cfa05a1b380de3896319cb8b2a1b", func := "middling/middlinglaw04.TermsJoined", spec := "termsJoined", unfollowed := true, recurses := true, named := ["middling/terms.checks"], apart := false, laid := [("middling/terms.checks", laid_middling_terms_checks)], narrowed := true }
def TermsJoinedUptoSaid : Prop := termsJoinedUptoRow.holds Tryd.pinned (OpenSpec.upto termsJoinedSpec)

/-- 'middlinglaw04.TermsSums', WHERE WHAT IT READS IS OF BULK AT MOST 1048576: true; the input reads as it did. -/
def termsSumsUptoRow : OpenClaim := { program := "ytppejcmjjjfamaadoor", sum := "73567ad6a904c3fb0ee0688ebaf96307f782cfa05a1b380de3896319cb8b2a1b", func := "middling/middlinglaw04.TermsSums", spec := "termsSums", unfollowed := true, recurses := true, named := ["middling/terms.checks"], apart := false, laid := [("middling/terms.checks", laid_middling_terms_checks)], narrowed := true }
def TermsSumsUptoSaid : Prop := termsSumsUptoRow.holds Tryd.pinned (OpenSpec.upto termsSumsSpec)

end Rows
end Go.Proofs.YtppejcmjjjfamaaDoor
