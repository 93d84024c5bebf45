/- The reference's validity of terms is the program's: plain lists. -/
import Derived.Test.YtppejcmjjjfamaaDoorRefOk
namespace Go.Proofs.YtppejcmjjjfamaaDoor
open Go.RowKit

theorem goesTo_true {zs : List Int} {up : Int} {n : Nat} : goesTo zs up n = true ↔ ∀ j, j < n → stepB zs up j = true := by
  simp [goesTo, List.all_eq_true]
theorem r2B_iff {t : TT} : r2B t = true ↔ ∀ j, j < 9 → stepB t.grades (-1) j = true ∧ stepB t.staples 1 j = true := by
  simp only [r2B, List.all_eq_true, List.mem_range, Bool.or_eq_true, Bool.and_eq_true, beq_iff_eq]
  constructor
  · intro h j hj
    rcases h j hj with e | e
    · subst e; exact ⟨rfl, rfl⟩
    · exact e
  · intro h j hj
    exact .inr (h j hj)
theorem r12 (t : TT) : (r1B t && r2B t) = (ck1B t && ck2B t) := by
  rw [Bool.eq_iff_iff]
  simp only [Bool.and_eq_true, r1B, ck1B, ck2B, tableB, nineB, r2B_iff, decide_eq_true_eq, goesTo_true]
  constructor
  · rintro ⟨⟨a, b, c, ⟨d, e⟩, f, g⟩, h⟩
    exact ⟨⟨⟨a, b⟩, c⟩, ⟨⟨d, e⟩, fun j hj => (h j (by omega)).1⟩, ⟨f, g⟩, fun j hj => (h j (by omega)).2⟩
  · rintro ⟨⟨⟨a, b⟩, c⟩, ⟨⟨d, e⟩, h1⟩, ⟨f, g⟩, h2⟩
    exact ⟨⟨a, b, c, ⟨d, e⟩, f, g⟩, fun j hj => ⟨h1 j (by omega), h2 j (by omega)⟩⟩
theorem r4 (t : TT) : r4B t = ck4B t := by
  rw [Bool.eq_iff_iff]
  simp only [r4B, ck4B, Bool.and_eq_true, spanB_true, inB_true]
  omega
theorem refT_ok (t : TT) : refT t = okT t := by
  simp only [refT, okT, r4, ← Bool.and_assoc]
  rw [r12]
theorem termsR_any (t : TT) (G S : Option Addr) (gc sc : Nat) (w : World) (hT : TermsA w G S t) :
    Calls Tryd.prog 81 #[.agg #[.int .i64 t.bg, .int .i64 t.bs, .int .i64 t.price, .int .i64 t.worst, .int .i64 t.short, .slice G t.grades.length gc, .slice S t.staples.length sc, .int .i64 t.dlo, .int .i64 t.dhi, .int .i64 t.bales, .int .i64 t.fee]] w fun e w' => e = .returned (.bool (okT t)) ∧ Below w.heap.size w w' := by
  rw [← refT_ok]
  exact termsR_ref t G S gc sc w hT
/-- what valid terms are good for -/
theorem okT.tabs {t : TT} (h : okT t = true) : tabs t := by
  simp only [okT, Bool.and_eq_true] at h
  exact tabs_of h.1 h.2.1
end Go.Proofs.YtppejcmjjjfamaaDoor
