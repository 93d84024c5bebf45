/- Terms as plain data, and what is said of them: no program is named here. -/
import Derived.Test.YtppejcmjjjfamaaDoorWords
namespace Go.Proofs.YtppejcmjjjfamaaDoor
open Go.RowKit

/-- terms as data -/
structure TT where
  bg : Int
  bs : Int
  price : Int
  worst : Int
  short : Int
  grades : List Int
  staples : List Int
  dlo : Int
  dhi : Int
  bales : Int
  fee : Int
/-- a span of numbers from lo to hi -/
def spanB (lo hi a b : Int) : Bool := (inB lo hi a && inB lo hi b) && decide (a ≤ b)
theorem spanB_true {lo hi a b : Int} : spanB lo hi a b = true ↔ lo ≤ a ∧ a ≤ b ∧ b ≤ hi := by
  simp [spanB, inB]; omega
/-- the number at a place is no step the wrong way from the one before -/
def stepB (zs : List Int) (up : Int) (i : Nat) : Bool := i == 0 || decide (0 ≤ (nth zs i - nth zs (i - 1)) * up)
/-- the first k numbers go one way -/
def goesTo (zs : List Int) (up : Int) (k : Nat) : Bool := (List.range k).all (stepB zs up)
def tableB (zs : List Int) (up : Int) : Bool := decide (zs.length = 9) && allB (-1000) 1000 zs && goesTo zs up zs.length
theorem goesTo_succ {zs : List Int} {up : Int} {k : Nat} (h : goesTo zs up k = true) (hs : stepB zs up k = true) : goesTo zs up (k + 1) = true := by
  unfold goesTo at h ⊢; rw [List.range_succ, List.all_append, h]; simp [hs]
theorem goesTo_not {zs : List Int} {up : Int} {k n : Nat} (hk : k < n) (hs : stepB zs up k = false) : goesTo zs up n = false := by
  unfold goesTo; rw [List.all_eq_false]; exact ⟨k, List.mem_range.2 hk, by simp [hs]⟩
theorem stepB_zero (zs : List Int) (up : Int) : stepB zs up 0 = true := rfl
theorem stepB_pos {zs : List Int} {up : Int} {k : Nat} (hk : 1 ≤ k) : stepB zs up k = decide (0 ≤ (nth zs k - nth zs (k - 1)) * up) := by
  have : (k == 0) = false := by simp; omega
  simp [stepB, this]
/-- the number of a table for a grade or a staple, told from 1 -/
def tabAt (zs : List Int) (g : Int) : Int := nth zs (g.toNat - 1)
/-- the value of a class -/
def valueI (t : TT) (g s : Int) : Int := t.price + tabAt t.grades g + tabAt t.staples s
def mayB (t : TT) (g s : Int) : Bool := decide (g ≤ t.worst) && decide (t.short ≤ s)
def dueB (t : TT) (m : Int) : Bool := inB t.dlo t.dhi m
def ck1B (t : TT) : Bool := inB 1 9 t.bg && inB 1 9 t.bs && inB 1 1000000 t.price
def ck2B (t : TT) : Bool := tableB t.grades (-1) && tableB t.staples 1
def ck3B (t : TT) : Bool := tabAt t.grades t.bg == 0 && tabAt t.staples t.bs == 0 && inB t.bg 9 t.worst && inB 1 t.bs t.short
def ck4B (t : TT) : Bool := spanB 0 60 t.dlo t.dhi && inB 1 20 t.bales && inB 0 1000 t.fee
def ck5B (t : TT) : Bool := decide (1 ≤ valueI t t.worst t.short)
/-- terms are valid -/
def okT (t : TT) : Bool := ck1B t && (ck2B t && (ck3B t && (ck4B t && ck5B t)))
/-- the tables and the price are such that all values can be told -/
def tabs (t : TT) : Prop := (1 ≤ t.price ∧ t.price ≤ 1000000) ∧ t.grades.length = 9 ∧ t.staples.length = 9 ∧ (∀ i, i < 9 → -1000 ≤ nth t.grades i ∧ nth t.grades i ≤ 1000) ∧ (∀ i, i < 9 → -1000 ≤ nth t.staples i ∧ nth t.staples i ≤ 1000)
theorem tabs_of {t : TT} (h1 : ck1B t = true) (h2 : ck2B t = true) : tabs t := by
  simp only [ck1B, ck2B, tableB, Bool.and_eq_true, inB_true, decide_eq_true_eq] at h1 h2
  obtain ⟨⟨⟨a1, a2⟩, a3⟩, ⟨b1, b2⟩, b3⟩ := h2
  exact ⟨h1.2, a1, b1, fun i hi => allB_true.1 a2 i (by omega), fun i hi => allB_true.1 b2 i (by omega)⟩
/-- where the tables of terms lie -/
def TermsA (w : World) (G S : Option Addr) (t : TT) : Prop := IntsA w G t.grades ∧ IntsA w S t.staples ∧ t.grades.length ≤ maxLen ∧ t.staples.length ≤ maxLen
theorem TermsA.below {w w' : World} {G S : Option Addr} {t : TT} (h : TermsA w G S t) (hb : Below w.heap.size w w') : TermsA w' G S t :=
  ⟨h.1.below hb, h.2.1.below hb, h.2.2⟩
/-- the cell of a table's number for a grade or a staple -/
theorem IntsA.tab {w : World} {A : Option Addr} {zs : List Int} (h : IntsA w A zs) {g : Int} (h9 : zs.length = 9) (h1 : 1 ≤ g) (hg : g ≤ 9) :
    ∃ b off, A = some ⟨b, off, none⟩ ∧ b < w.heap.size ∧ w.cell? ⟨b, off + (g.toNat - 1), none⟩ = some (.int .i64 (tabAt zs g)) := by
  obtain ⟨b, off, e, hb, hc⟩ := h (by omega)
  exact ⟨b, off, e, hb, hc _ (by omega)⟩
theorem tabs.at1 {t : TT} (h : tabs t) {g : Int} (h1 : 1 ≤ g) (hg : g ≤ 9) : -1000 ≤ tabAt t.grades g ∧ tabAt t.grades g ≤ 1000 := h.2.2.2.1 _ (by omega)
theorem tabs.at2 {t : TT} (h : tabs t) {g : Int} (h1 : 1 ≤ g) (hg : g ≤ 9) : -1000 ≤ tabAt t.staples g ∧ tabAt t.staples g ≤ 1000 := h.2.2.2.2 _ (by omega)
end Go.Proofs.YtppejcmjjjfamaaDoor
