/- What some bales come to: plain. -/
import Derived.Test.YtppejcmjjjfamaaDoorRefTells
namespace Go.Proofs.YtppejcmjjjfamaaDoor
open Go.RowKit

/-- A slice's address at which so many pairs of cells read as the classes: as SpansA, of classes. -/
def PairsA (w : World) (A : Option Addr) (l : List (Int × Int)) : Prop :=
  0 < l.length → ∃ b off, A = some ⟨b, off, none⟩ ∧ b < w.heap.size ∧ ∀ i, i < l.length → w.cell? ⟨b, off + i * 2, none⟩ = some (.int .i64 (nth l i).1) ∧ w.cell? ⟨b, off + i * 2 + 1, none⟩ = some (.int .i64 (nth l i).2)
theorem PairsA.below {w w' : World} {A : Option Addr} {l : List (Int × Int)} (h : PairsA w A l) (hb : Below w.heap.size w w') : PairsA w' A l := fun h0 => by
  obtain ⟨b, off, e, hl, hc⟩ := h h0
  exact ⟨b, off, e, Nat.lt_of_lt_of_le hl hb.size, fun i hi => ⟨(hb.cell (p := ⟨b, off + i * 2, none⟩) hl).trans (hc i hi).1, (hb.cell (p := ⟨b, off + i * 2 + 1, none⟩) hl).trans (hc i hi).2⟩⟩

def mayC (t : TT) (c : Int × Int) : Bool := mayB t c.1 c.2
def valC (t : TT) (c : Int × Int) : Int := valueI t c.1 c.2
/-- what the first k come to, and the places of those of them that are refused -/
def sumTo (t : TT) (l : List (Int × Int)) : Nat → Int
  | 0 => 0
  | k + 1 => sumTo t l k + if mayC t (nth l k) = true then valC t (nth l k) else 0
def refTo (t : TT) (l : List (Int × Int)) : Nat → List Int
  | 0 => []
  | k + 1 => if mayC t (nth l k) = true then refTo t l k else refTo t l k ++ [(k : Int)]
def errCl (c : Int × Int) : Int := errC c.1 c.2
/-- the error of the first class that is none -/
def errTo (l : List (Int × Int)) : Nat → Int
  | 0 => 0
  | k + 1 => if errTo l k = 0 then errCl (nth l k) else errTo l k
def totalP (t : TT) (m : Int) (l : List (Int × Int)) : Int × List Int × Int :=
  if okT t = false then (0, [], 40) else if dueB t m = false then (0, [], 44) else if t.bales < l.length then (0, [], 4)
  else if errTo l l.length ≠ 0 then (0, [], errTo l l.length) else (sumTo t l l.length, refTo t l l.length, 0)
theorem errTo_stay {l : List (Int × Int)} {k : Nat} (h : errTo l k ≠ 0) : ∀ n, k ≤ n → errTo l n = errTo l k := by
  intro n hn
  induction n with
  | zero => have : k = 0 := by omega
            subst this; rfl
  | succ n ih =>
    by_cases e : k = n + 1
    · subst e; rfl
    · have := ih (by omega)
      simp only [errTo, this, if_neg h]
theorem errTo_first {l : List (Int × Int)} {k : Nat} (h0 : errTo l k = 0) (hk : k < l.length) (h : errCl (nth l k) ≠ 0) : errTo l l.length = errCl (nth l k) := by
  have h1 : errTo l (k + 1) = errCl (nth l k) := by simp [errTo, h0]
  rw [errTo_stay (k := k + 1) (by rw [h1]; exact h) _ (by omega), h1]
theorem refTo_len (t : TT) (l : List (Int × Int)) (k : Nat) : (refTo t l k).length ≤ k := by
  induction k with
  | zero => simp [refTo]
  | succ k ih =>
    simp only [refTo]
    split
    · omega
    · rw [List.length_append]; simp; omega
theorem tabs.val {t : TT} (h : tabs t) {g s : Int} (hg : 1 ≤ g ∧ g ≤ 9) (hs : 1 ≤ s ∧ s ≤ 9) : -2000 ≤ valueI t g s ∧ valueI t g s ≤ 1002000 := by
  have a := h.at1 hg.1 hg.2
  have b := h.at2 hs.1 hs.2
  have c := h.1
  unfold valueI; omega
theorem errC_zero {g s : Int} (h : errC g s = 0) : (1 ≤ g ∧ g ≤ 9) ∧ (1 ≤ s ∧ s ≤ 9) := by
  unfold errC at h
  split at h
  · rename_i h2
    split at h
    · rename_i h3; exact ⟨inB_true.1 h2, inB_true.1 h3⟩
    · omega
  · omega
theorem errTo_all {l : List (Int × Int)} : ∀ {k : Nat}, errTo l k = 0 → ∀ j, j < k → errCl (nth l j) = 0
  | 0, _, j, hj => by omega
  | k + 1, h, j, hj => by
    simp only [errTo] at h
    split at h
    · rename_i h0
      by_cases e : j = k
      · subst e; exact h
      · exact errTo_all h0 j (by omega)
    · exact absurd h (by assumption)
theorem sumTo_bd {t : TT} (ht : tabs t) {l : List (Int × Int)} : ∀ {k : Nat}, errTo l k = 0 → -2000 * (k : Int) ≤ sumTo t l k ∧ sumTo t l k ≤ 1002000 * (k : Int)
  | 0, _ => by simp [sumTo]
  | k + 1, h => by
    have he := errTo_all h
    have h0 : errTo l k = 0 := by
      simp only [errTo] at h
      split at h
      · assumption
      · exact absurd h (by assumption)
    have ih := sumTo_bd ht h0
    obtain ⟨hg, hs⟩ := errC_zero (he k (by omega))
    have hv := ht.val hg hs
    simp only [sumTo]
    have : valC t (nth l k) = valueI t (nth l k).1 (nth l k).2 := rfl
    split <;> omega
end Go.Proofs.YtppejcmjjjfamaaDoor
