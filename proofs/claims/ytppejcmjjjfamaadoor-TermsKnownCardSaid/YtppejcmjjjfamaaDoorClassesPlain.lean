/- The classes of some grades and staples, in order: plain. -/
import Derived.Test.YtppejcmjjjfamaaDoorPlain
namespace Go.Proofs.YtppejcmjjjfamaaDoor
open Go.RowKit

/-- a class that is one -/
abbrev Cls := { c : Int × Int // (1 ≤ c.1 ∧ c.1 ≤ 9) ∧ (1 ≤ c.2 ∧ c.2 ≤ 9) }
/-- the classes of a grade, of staples from lo to below hi -/
def rowL (g lo hi : Int) : List (Int × Int) := (List.range (hi - lo).toNat).map fun i : Nat => (g, lo + (i : Int))
/-- those of all grades from a to below g -/
def rowsL (a g lo hi : Int) : List (Int × Int) := (List.range (g - a).toNat).flatMap fun i : Nat => rowL (a + (i : Int)) lo hi
theorem rowL_nil {g lo hi : Int} (h : hi ≤ lo) : rowL g lo hi = [] := by
  have : (hi - lo).toNat = 0 := by omega
  simp [rowL, this]
theorem rowL_succ {g lo s : Int} (h : lo ≤ s) : rowL g lo (s + 1) = rowL g lo s ++ [(g, s)] := by
  have e : (s + 1 - lo).toNat = (s - lo).toNat + 1 := by omega
  have e2 : lo + ((s - lo).toNat : Int) = s := by omega
  have e3 : lo + max (s - lo) 0 = s := by omega
  simp [rowL, e, List.range_succ, e3]
theorem rowsL_nil {a g lo hi : Int} (h : g ≤ a) : rowsL a g lo hi = [] := by
  have : (g - a).toNat = 0 := by omega
  simp [rowsL, this]
theorem rowsL_succ {a g lo hi : Int} (h : a ≤ g) : rowsL a (g + 1) lo hi = rowsL a g lo hi ++ rowL g lo hi := by
  have e : (g + 1 - a).toNat = (g - a).toNat + 1 := by omega
  have e2 : a + ((g - a).toNat : Int) = g := by omega
  have e3 : a + max (g - a) 0 = g := by omega
  simp [rowsL, e, List.range_succ, e3]
theorem rowL_end {g lo s d : Int} (h1 : d < s) (h2 : s ≤ d + 1 ∨ s = lo) : rowL g lo s = rowL g lo (d + 1) := by
  rcases h2 with h2 | h2
  · have : s = d + 1 := by omega
    rw [this]
  · rw [rowL_nil (by omega), rowL_nil (by omega)]
theorem rowsL_end {a g lo hi m : Int} (h1 : m < g) (h2 : g ≤ m + 1 ∨ g = a) : rowsL a g lo hi = rowsL a (m + 1) lo hi := by
  rcases h2 with h2 | h2
  · have : g = m + 1 := by omega
    rw [this]
  · rw [rowsL_nil (by omega), rowsL_nil (by omega)]
/-- the classes of grades a to b and staples c to d that may be delivered, in order -/
def classesL (t : TT) (a b c d : Int) : List (Int × Int) := rowsL a (min b t.worst + 1) (max c t.short) (d + 1)
theorem mem_rowL {g lo hi : Int} {x : Int × Int} : x ∈ rowL g lo hi ↔ x.1 = g ∧ lo ≤ x.2 ∧ x.2 < hi := by
  obtain ⟨p, q⟩ := x
  simp only [rowL, List.mem_map, List.mem_range, Prod.mk.injEq]
  constructor
  · rintro ⟨i, hi, rfl, rfl⟩; exact ⟨rfl, by omega, by omega⟩
  · rintro ⟨rfl, h1, h2⟩; exact ⟨(q - lo).toNat, by omega, rfl, by omega⟩
theorem mem_rowsL {a g lo hi : Int} {x : Int × Int} : x ∈ rowsL a g lo hi ↔ (a ≤ x.1 ∧ x.1 < g) ∧ lo ≤ x.2 ∧ x.2 < hi := by
  simp only [rowsL, List.mem_flatMap, List.mem_range, mem_rowL]
  constructor
  · rintro ⟨i, hi, e, h1, h2⟩; exact ⟨by omega, h1, h2⟩
  · rintro ⟨⟨h1, h2⟩, h3⟩; exact ⟨(x.1 - a).toNat, by omega, by omega, h3⟩
theorem mem_classesL {t : TT} {a b c d : Int} {x : Int × Int} : x ∈ classesL t a b c d ↔ (a ≤ x.1 ∧ x.1 ≤ b) ∧ (c ≤ x.2 ∧ x.2 ≤ d) ∧ mayB t x.1 x.2 = true := by
  simp only [classesL, mem_rowsL, mayB, Bool.and_eq_true, decide_eq_true_eq]
  omega
end Go.Proofs.YtppejcmjjjfamaaDoor
