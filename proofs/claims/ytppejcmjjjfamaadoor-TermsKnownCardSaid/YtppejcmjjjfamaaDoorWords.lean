/- Plain words for these proofs: spans of numbers, lists of numbers in memory, and small facts on worlds. No program is named here. -/
import Derived.WalkKit
import Derived.WalkSpells
import Derived.WalkLawsBesides
import Derived.Lib.Hide
namespace Go.Proofs.YtppejcmjjjfamaaDoor
open Go.RowKit

/-- a number lies outside of lo to hi -/
def outB (lo hi n : Int) : Bool := decide (n < lo ∨ n > hi)
/-- a number lies within lo to hi -/
def inB (lo hi n : Int) : Bool := decide (lo ≤ n ∧ n ≤ hi)
theorem outB_inB (lo hi n : Int) : outB lo hi n = !inB lo hi n := by
  unfold outB inB; rw [Bool.eq_iff_iff]; simp
theorem inB_true {lo hi n : Int} : inB lo hi n = true ↔ lo ≤ n ∧ n ≤ hi := by simp [inB]
theorem inB_false {lo hi n : Int} : inB lo hi n = false ↔ ¬ (lo ≤ n ∧ n ≤ hi) := by simp [inB]

/-- the i-th one of a list -/
def nth {α : Type} [Inhabited α] (zs : List α) (i : Nat) : α := zs.getD i default
section
variable {α : Type} [Inhabited α]
theorem nth_lt {zs : List α} {i : Nat} (h : i < zs.length) : nth zs i = zs[i] := by simp [nth, h]
end

/-- A slice's address at which so many cells read as the numbers, below a block. -/
def IntsA (w : World) (A : Option Addr) (zs : List Int) : Prop :=
  0 < zs.length → ∃ b off, A = some ⟨b, off, none⟩ ∧ b < w.heap.size ∧ ∀ i, i < zs.length → w.cell? ⟨b, off + i, none⟩ = some (.int .i64 (nth zs i))
theorem IntsA.below {w w' : World} {A : Option Addr} {zs : List Int} (h : IntsA w A zs) (hb : Below w.heap.size w w') : IntsA w' A zs := fun h0 => by
  obtain ⟨b, off, e, hl, hc⟩ := h h0
  exact ⟨b, off, e, Nat.lt_of_lt_of_le hl hb.size, fun i hi => (hb.cell (p := ⟨b, off + i, none⟩) hl).trans (hc i hi)⟩
theorem IntsA.alloc {w : World} {A : Option Addr} {zs : List Int} (h : IntsA w A zs) (o : Obj) : IntsA (w.alloc o) A zs :=
  h.below ((Below.refl _ _).alloc (Nat.le_refl _) _)

section
variable {α : Type} [Inhabited α]
/-- the place of the first one for which p says yes; -1 if there is none -/
def findIx (p : α → Bool) (zs : List α) : Int := match zs.findIdx? p with | some i => (i : Int) | none => -1
def noneBefore (p : α → Bool) (zs : List α) (k : Nat) : Prop := ∀ j, j < k → p (nth zs j) = false
theorem noneBefore.zero (p : α → Bool) (zs : List α) : noneBefore p zs 0 := fun j hj => by omega
theorem noneBefore.succ {p : α → Bool} {zs : List α} {k : Nat} (h : noneBefore p zs k) (hk : p (nth zs k) = false) : noneBefore p zs (k + 1) := fun j hj => by
  by_cases e : j = k
  · subst e; exact hk
  · exact h j (by omega)
theorem findIx_at {p : α → Bool} {zs : List α} {k : Nat} (hn : noneBefore p zs k) (hk : k < zs.length) (hp : p (nth zs k) = true) : (k : Int) = findIx p zs := by
  have : zs.findIdx? p = some k := by
    rw [List.findIdx?_eq_some_iff_getElem]
    refine ⟨hk, by simpa [nth, hk] using hp, fun j hj => ?_⟩
    have := hn j hj
    simpa [nth, Nat.lt_trans hj hk] using this
  simp [findIx, this]
theorem findIx_none {p : α → Bool} {zs : List α} (hn : noneBefore p zs zs.length) : (-1 : Int) = findIx p zs := by
  have : zs.findIdx? p = none := by
    rw [List.findIdx?_eq_none_iff]
    intro x hx
    obtain ⟨i, hi, rfl⟩ := List.getElem_of_mem hx
    simpa [nth, hi] using hn i hi
  simp [findIx, this]
omit [Inhabited α] in
theorem findIx_any (p : α → Bool) (zs : List α) : decide (0 ≤ findIx p zs) = zs.any p := by
  unfold findIx
  cases h : zs.findIdx? p with
  | none =>
    rw [List.findIdx?_eq_none_iff] at h
    have : zs.any p = false := by rw [List.any_eq_false]; intro x hx; simp [h x hx]
    rw [this]; decide
  | some i =>
    rw [List.findIdx?_eq_some_iff_getElem] at h
    obtain ⟨hi, hp, _⟩ := h
    have : zs.any p = true := by rw [List.any_eq_true]; exact ⟨zs[i], List.getElem_mem hi, hp⟩
    rw [this]; simp
end
/-- all numbers lie within lo to hi -/
def allB (lo hi : Int) (zs : List Int) : Bool := !(zs.any (outB lo hi))
theorem allB_one (lo hi x : Int) : allB lo hi [x] = inB lo hi x := by simp [allB, outB_inB]
theorem allB_two (lo hi x y : Int) : allB lo hi [x, y] = (inB lo hi x && inB lo hi y) := by simp [allB, outB_inB]
theorem allB_true {lo hi : Int} {zs : List Int} : allB lo hi zs = true ↔ ∀ i, i < zs.length → lo ≤ nth zs i ∧ nth zs i ≤ hi := by
  simp only [allB, Bool.not_eq_true', List.any_eq_false, outB_inB, Bool.not_eq_false, Bool.not_eq_true]
  constructor
  · intro h i hi
    have := h zs[i] (List.getElem_mem hi)
    rw [inB_true] at this
    rw [nth_lt hi]; exact this
  · intro h x hx
    obtain ⟨i, hi, rfl⟩ := List.getElem_of_mem hx
    rw [inB_true, ← nth_lt hi]; exact h i hi

theorem ret_int {k : IntKind} {a b : Int} (h : a = b) : Ending.returned (.int k a) = .returned (.int k b) := by rw [h]
theorem ret_bool {a b : Bool} (h : a = b) : Ending.returned (.bool a) = .returned (.bool b) := by rw [h]
/-- behind a call that only makes memory: what lay before reads as before -/
theorem bcell {W w1 : World} (hb : Below W.heap.size W w1) : (∀ b o, b < W.heap.size → w1.cell? ⟨b, o, none⟩ = W.cell? ⟨b, o, none⟩) ∧ (∀ b o, b < W.heap.size → w1.frozen? ⟨b, o, none⟩ = W.frozen? ⟨b, o, none⟩) :=
  ⟨fun b o h => hb.cell (p := ⟨b, o, none⟩) h, fun b o h => hb.frozen (p := ⟨b, o, none⟩) h⟩
theorem below_up {w W w' : World} (h : Below w.heap.size w W) (hb : Below W.heap.size W w') : Below w.heap.size w w' := h.trans (hb.mono h.size)
theorem below_drewN {B : Nat} {a w : World} (h : Below B a w) (n : Nat) : Below B a (w.drewN n) := ⟨h.os, h.tape, h.output, h.size, h.block⟩
/-- at a way out, what is known of the world is said, and the world is a letter from here on -/
theorem exit_gen {Q : Exit → Act → World → Prop} {a : Act} {W : World} (R : World → Prop) (hR : R W) (h : ∀ W1, R W1 → Q .normal a W1) : Q .normal a W := h W hR
end Go.Proofs.YtppejcmjjjfamaaDoor
