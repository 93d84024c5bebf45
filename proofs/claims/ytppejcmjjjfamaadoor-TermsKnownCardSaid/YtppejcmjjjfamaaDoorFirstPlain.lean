/- The first one of several things by an order: plain. -/
import Derived.Test.YtppejcmjjjfamaaDoorPlain
namespace Go.Proofs.YtppejcmjjjfamaaDoor
open Go.RowKit

/-- -1, 0 or 1 -/
def cmpZ (x y : Int) : Int := if x < y then -1 else if y < x then 1 else 0
section
variable {α : Type}
def bestStep (ord : α → α → Int) (b : Option α) (x : α) : Option α := match b with
  | none => some x
  | some y => if ord x y < 0 then some x else some y
def bestL (ord : α → α → Int) (l : List α) : Option α := l.foldl (bestStep ord) none
theorem bestL_snoc (ord : α → α → Int) (l : List α) (x : α) : bestL ord (l ++ [x]) = bestStep ord (bestL ord l) x := by simp [bestL]
theorem bestStep_some (ord : α → α → Int) (b : Option α) (x : α) : ∃ y, bestStep ord b x = some y := by
  cases b with
  | none => exact ⟨_, rfl⟩
  | some y => by_cases h : ord x y < 0 <;> simp [bestStep, h]
theorem foldl_best (ord : α → α → Int) : ∀ (l : List α) (b : Option α) (y : α), l.foldl (bestStep ord) b = some y → y ∈ l ∨ b = some y
  | [], b, y, h => .inr h
  | x :: l, b, y, h => by
    rcases foldl_best ord l _ y h with h1 | h1
    · exact .inl (List.mem_cons_of_mem _ h1)
    · cases b with
      | none => simp [bestStep] at h1; exact .inl (by simp [h1])
      | some z =>
        simp only [bestStep] at h1
        by_cases hlt : ord x z < 0
        · rw [if_pos hlt] at h1; simp at h1; exact .inl (by simp [h1])
        · rw [if_neg hlt] at h1; exact .inr h1
theorem foldl_some (ord : α → α → Int) : ∀ (l : List α) (z : α), ∃ y, l.foldl (bestStep ord) (some z) = some y
  | [], z => ⟨z, rfl⟩
  | x :: l, z => by
    obtain ⟨y, hy⟩ := bestStep_some ord (some z) x
    rw [List.foldl_cons, hy]; exact foldl_some ord l y
theorem bestL_none {ord : α → α → Int} {l : List α} : bestL ord l = none ↔ l = [] := by
  cases l with
  | nil => simp [bestL]
  | cons x l =>
    obtain ⟨y, hy⟩ := foldl_some ord l x
    simp [bestL, bestStep, hy]
theorem bestL_mem {ord : α → α → Int} {l : List α} {y : α} (h : bestL ord l = some y) : y ∈ l := by
  rcases foldl_best ord l none y h with h1 | h1
  · exact h1
  · cases h1
end
end Go.Proofs.YtppejcmjjjfamaaDoor
