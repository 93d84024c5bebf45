/- What Allows answers is what the reference answers: plain. -/
import Derived.Test.YtppejcmjjjfamaaDoorAllows
import Derived.Test.YtppejcmjjjfamaaDoorInvoice
namespace Go.Proofs.YtppejcmjjjfamaaDoor
open Go.RowKit

theorem known_one (t : TT) (g s m : Int) : (((knownP t g g s s m).1 == 2, (knownP t g g s s m).2) : Bool × Int) = allowsP t g s m := by
  unfold knownP allowsP dueB
  rw [err1_one]
  generalize askE t g s = e
  by_cases h : e = 0
  · subst h
    cases h1 : inB 0 60 m <;> cases h2 : inB t.dlo t.dhi m <;> cases h3 : mayB t g s <;> simp
  · simp [h]
theorem allowsT_any (t : TT) (G S : Option Addr) (gc sc : Nat) (g s m : Int) (w : World) (hL : Laid w) (hT : TermsA w G S t) :
    Calls Tryd.prog 22 #[.agg #[.int .i64 t.bg, .int .i64 t.bs, .int .i64 t.price, .int .i64 t.worst, .int .i64 t.short, .slice G t.grades.length gc, .slice S t.staples.length sc, .int .i64 t.dlo, .int .i64 t.dhi, .int .i64 t.bales, .int .i64 t.fee], .agg #[.int .i64 g, .int .i64 s], .int .i64 m] w fun e w' => e = .returned (.tuple #[.bool (allowsP t g s m).1, .int .i64 (allowsP t g s m).2]) ∧ Below w.heap.size w w' := by
  rw [← known_one]
  exact allowsT_raw t G S gc sc g s m w hL hT
end Go.Proofs.YtppejcmjjjfamaaDoor
