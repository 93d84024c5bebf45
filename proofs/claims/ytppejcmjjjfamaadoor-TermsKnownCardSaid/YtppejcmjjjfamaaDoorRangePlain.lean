/- What an invoice can come to, and whether a bale may be delivered: plain. -/
import Derived.Test.YtppejcmjjjfamaaDoorTotalPlain
import Derived.Test.YtppejcmjjjfamaaDoorClassesPlain
import Derived.Test.YtppejcmjjjfamaaDoorFirstPlain
import Derived.Test.YtppejcmjjjfamaaDoorKnown
namespace Go.Proofs.YtppejcmjjjfamaaDoor
open Go.RowKit

/-- the least and the greatest one so far -/
def extStep (o : Option (Int × Int)) (n : Int) : Option (Int × Int) := match o with
  | none => some (n, n)
  | some (p, q) => some (min p n, max q n)
def extL (V : List Int) : Option (Int × Int) := V.foldl extStep none
theorem extL_snoc (V : List Int) (n : Int) : extL (V ++ [n]) = extStep (extL V) n := by simp [extL]
def IsExt (V : List Int) (r : Option (Int × Int)) : Prop := match r with
  | none => V = []
  | some (p, q) => p ∈ V ∧ q ∈ V ∧ ∀ z, z ∈ V → p ≤ z ∧ z ≤ q
theorem extL_isExt (V : List Int) : IsExt V (extL V) := by
  suffices h : ∀ (l pre : List Int) (o : Option (Int × Int)), IsExt pre o → IsExt (pre ++ l) (l.foldl extStep o) by
    have := h V [] none rfl
    rwa [List.nil_append] at this
  intro l
  induction l with
  | nil => intro pre o h; simpa using h
  | cons n l ih =>
    intro pre o h
    have : pre ++ n :: l = (pre ++ [n]) ++ l := by simp
    rw [this, List.foldl_cons]
    refine ih _ _ ?_
    cases o with
    | none => simp only [IsExt] at h; subst h; simp [extStep, IsExt]
    | some r =>
      obtain ⟨p, q⟩ := r
      obtain ⟨h1, h2, h3⟩ := h
      have h4 := h3 p h1
      have h5 := h3 q h2
      refine ⟨?_, ?_, ?_⟩
      · rcases Int.le_total p n with h | h
        · rw [Int.min_eq_left h]; simp [h1]
        · rw [Int.min_eq_right h]; simp
      · rcases Int.le_total q n with h | h
        · rw [Int.max_eq_right h]; simp
        · rw [Int.max_eq_left h]; simp [h2]
      · intro z hz
        rcases List.mem_append.1 hz with hz | hz
        · have := h3 z hz; omega
        · have : z = n := by simpa using hz
          omega
theorem isExt_unique {V V' : List Int} (hV : ∀ z, z ∈ V ↔ z ∈ V') {r r' : Option (Int × Int)} (h : IsExt V r) (h' : IsExt V' r') : r = r' := by
  cases r with
  | none =>
    cases r' with
    | none => rfl
    | some r' =>
      obtain ⟨p', q'⟩ := r'
      have := (hV p').2 h'.1
      simp only [IsExt] at h
      rw [h] at this; simp at this
  | some r =>
    obtain ⟨p, q⟩ := r
    cases r' with
    | none =>
      have := (hV p).1 h.1
      simp only [IsExt] at h'
      rw [h'] at this; simp at this
    | some r' =>
      obtain ⟨p', q'⟩ := r'
      obtain ⟨a1, a2, a3⟩ := h
      obtain ⟨b1, b2, b3⟩ := h'
      have c1 := a3 p' ((hV _).2 b1)
      have c2 := a3 q' ((hV _).2 b2)
      have c3 := b3 p ((hV _).1 a1)
      have c4 := b3 q ((hV _).1 a2)
      have e1 : p = p' := by omega
      have e2 : q = q' := by omega
      rw [e1, e2]
theorem extL_of {V : List Int} {r : Option (Int × Int)} (h : IsExt V r) : extL V = r := isExt_unique (fun _ => Iff.rfl) (extL_isExt V) h
theorem extL_none {V : List Int} : extL V = none ↔ V = [] := by
  constructor
  · intro h; have := extL_isExt V; rw [h] at this; exact this
  · intro h; subst h; rfl
theorem extL_bd {V : List Int} {lo hi : Int} (h : ∀ z, z ∈ V → lo ≤ z ∧ z ≤ hi) {p q : Int} (hr : extL V = some (p, q)) : (lo ≤ p ∧ p ≤ hi) ∧ (lo ≤ q ∧ q ≤ hi) := by
  have := extL_isExt V
  rw [hr] at this
  exact ⟨h _ this.1, h _ this.2.1⟩
def rangeP (t : TT) (a b c d : Int) : Int × Int × Int :=
  if err1 t a b c d ≠ 0 then (0, 0, err1 t a b c d) else match extL ((classesL t a b c d).map (valC t)) with
    | none => (0, 0, 6)
    | some (p, q) => (p, q, 0)
theorem err1_zero {t : TT} {a b c d : Int} (h : err1 t a b c d = 0) : okT t = true ∧ (1 ≤ a ∧ a ≤ b ∧ b ≤ 9) ∧ (1 ≤ c ∧ c ≤ d ∧ d ≤ 9) := by
  simp only [err1, errO, errR, errT, orI, List.any_cons, List.any_nil, Bool.or_false, badSpan] at h
  cases h1 : okT t
  · simp [h1] at h
  cases h2 : spanB 1 9 a b
  · simp [h1, h2] at h
  cases h3 : spanB 1 9 c d
  · simp [h1, h2, h3] at h
  exact ⟨rfl, spanB_true.1 h2, spanB_true.1 h3⟩
section
variable {α : Type}
theorem foldl_best_le {ord : α → α → Int} {f : α → Int} (ho : ∀ x y, ord x y < 0 ↔ f x < f y) : ∀ (l : List α) (b : Option α) (y : α), l.foldl (bestStep ord) b = some y → (∀ x, x ∈ l → f y ≤ f x) ∧ ∀ z, b = some z → f y ≤ f z
  | [], b, y, h => ⟨fun x hx => by simp at hx, fun z hz => by
    simp only [List.foldl_nil] at h
    rw [h] at hz; cases hz; exact Int.le_refl _⟩
  | x :: l, b, y, h => by
    obtain ⟨h1, h2⟩ := foldl_best_le ho l _ y h
    cases b with
    | none =>
      have := h2 x rfl
      refine ⟨fun z hz => ?_, fun z hz => by cases hz⟩
      rcases List.mem_cons.1 hz with rfl | hz
      · exact this
      · exact h1 z hz
    | some z0 =>
      simp only [bestStep] at h2
      by_cases hlt : ord x z0 < 0
      · rw [if_pos hlt] at h2
        have h3 := h2 x rfl
        have h4 := (ho _ _).1 hlt
        refine ⟨fun z hz => ?_, fun z hz => by cases hz; omega⟩
        rcases List.mem_cons.1 hz with rfl | hz
        · exact h3
        · exact h1 z hz
      · rw [if_neg hlt] at h2
        have h3 := h2 z0 rfl
        have h4 : ¬ f x < f z0 := fun h => hlt ((ho _ _).2 h)
        refine ⟨fun z hz => ?_, fun z hz => by cases hz; exact h3⟩
        rcases List.mem_cons.1 hz with rfl | hz
        · omega
        · exact h1 z hz
theorem bestL_le {ord : α → α → Int} {f : α → Int} (ho : ∀ x y, ord x y < 0 ↔ f x < f y) {l : List α} {y : α} (h : bestL ord l = some y) : ∀ x, x ∈ l → f y ≤ f x := (foldl_best_le ho l none y h).1
end
theorem cmpZ_neg (x y : Int) : 1 * cmpZ x y < 0 ↔ x < y := by unfold cmpZ; split <;> (try split) <;> omega
theorem cmpZ_pos (x y : Int) : -1 * cmpZ x y < 0 ↔ -x < -y := by unfold cmpZ; split <;> (try split) <;> omega
/-- the two best ones of an order and of its reverse are the ends -/
theorem ends_of {t : TT} {L : List (Int × Int)} {xs ys : List Cls} (hx : xs.map (·.1) = L) (hy : ys.map (·.1) = L) {p q : Cls}
    (hp : bestL (fun x y : Cls => 1 * cmpZ (valC t x.1) (valC t y.1)) xs = some p) (hq : bestL (fun x y : Cls => -1 * cmpZ (valC t x.1) (valC t y.1)) ys = some q) : extL (L.map (valC t)) = some (valC t p.1, valC t q.1) := by
  refine extL_of ?_
  have mx : ∀ {zs : List Cls}, zs.map (·.1) = L → ∀ z, z ∈ L.map (valC t) ↔ ∃ x, x ∈ zs ∧ valC t x.1 = z := by
    intro zs hz z
    subst hz
    simp only [List.mem_map]
    constructor
    · rintro ⟨_, ⟨x, hx, rfl⟩, rfl⟩; exact ⟨x, hx, rfl⟩
    · rintro ⟨x, hx, rfl⟩; exact ⟨_, ⟨x, hx, rfl⟩, rfl⟩
  refine ⟨(mx hx _).2 ⟨p, bestL_mem hp, rfl⟩, (mx hy _).2 ⟨q, bestL_mem hq, rfl⟩, fun z hz => ⟨?_, ?_⟩⟩
  · obtain ⟨x, h1, rfl⟩ := (mx hx z).1 hz
    exact bestL_le (f := fun x : Cls => valC t x.1) (fun x y => cmpZ_neg _ _) hp x h1
  · obtain ⟨x, h1, rfl⟩ := (mx hy z).1 hz
    have := bestL_le (f := fun x : Cls => -valC t x.1) (fun x y => cmpZ_pos _ _) hq x h1
    omega
/-- the ends of the values of those classes of a list that may be delivered -/
def extRows (t : TT) (L : List (Int × Int)) : Option (Int × Int) := extL ((L.filter (mayC t)).map (valC t))
theorem extRows_snoc (t : TT) (A B : List (Int × Int)) (x : Int × Int) : extRows t (A ++ (B ++ [x])) = if mayC t x = true then extStep (extRows t (A ++ B)) (valC t x) else extRows t (A ++ B) := by
  unfold extRows
  rw [← List.append_assoc, List.filter_append, List.map_append]
  cases h : mayC t x
  · simp [h]
  · have e : (List.filter (mayC t) [x]).map (valC t) = [valC t x] := by simp [h]
    rw [e, extL_snoc, if_pos rfl]
theorem extRows_all (t : TT) {a b c d : Int} : extRows t (rowsL a (b + 1) c (d + 1)) = extL ((classesL t a b c d).map (valC t)) := by
  refine isExt_unique (fun z => ?_) (extL_isExt _) (extL_isExt _)
  simp only [List.mem_map, List.mem_filter, mem_rowsL, mem_classesL, mayC]
  constructor
  · rintro ⟨x, ⟨⟨⟨h1, h2⟩, h3, h4⟩, h5⟩, rfl⟩; exact ⟨x, ⟨⟨h1, by omega⟩, ⟨h3, by omega⟩, h5⟩, rfl⟩
  · rintro ⟨x, ⟨⟨h1, h2⟩, ⟨h3, h4⟩, h5⟩, rfl⟩; exact ⟨x, ⟨⟨⟨h1, by omega⟩, h3, by omega⟩, h5⟩, rfl⟩
def ext0 (o : Option (Int × Int)) : Int × Int := o.getD (0, 0)
theorem rangeP_zero {t : TT} {a b c d : Int} (h : err1 t a b c d = 0) : rangeP t a b c d = ((ext0 (extRows t (rowsL a (b + 1) c (d + 1)))).1, (ext0 (extRows t (rowsL a (b + 1) c (d + 1)))).2, if (extRows t (rowsL a (b + 1) c (d + 1))).isSome = true then 0 else 6) := by
  unfold rangeP
  rw [if_neg (by simp [h]), extRows_all]
  cases extL ((classesL t a b c d).map (valC t)) with
  | none => rfl
  | some r => obtain ⟨p, q⟩ := r; rfl
/-- whether a class may be delivered in a month -/
def isB (t : TT) (m : Int) (c : Int × Int) : Bool := mayB t c.1 c.2 && dueB t m
theorem known_of {t : TT} {a b c d m : Int} (h : err1 t a b c d = 0) (hm : inB 0 60 m = true) :
    knownP t a b c d m = (if (rowsL a (b + 1) c (d + 1)).all (isB t m) = true then 2 else if (rowsL a (b + 1) c (d + 1)).any (isB t m) = true then 1 else 0, 0) := by
  obtain ⟨_, ⟨a1, a2, a3⟩, c1, c2, c3⟩ := err1_zero h
  have hall : (rowsL a (b + 1) c (d + 1)).all (isB t m) = (mayB t b c && dueB t m) := by
    rw [Bool.eq_iff_iff, List.all_eq_true]
    simp only [mem_rowsL, isB, mayB, Bool.and_eq_true, decide_eq_true_eq]
    constructor
    · intro h; have := h (b, c) (by simp; omega); simpa using this
    · rintro ⟨⟨h1, h2⟩, h3⟩ x hx
      exact ⟨⟨by omega, by omega⟩, h3⟩
  have hany : (rowsL a (b + 1) c (d + 1)).any (isB t m) = (mayB t a d && dueB t m) := by
    rw [Bool.eq_iff_iff, List.any_eq_true]
    simp only [mem_rowsL, isB, mayB, Bool.and_eq_true, decide_eq_true_eq]
    constructor
    · rintro ⟨x, hx, ⟨h1, h2⟩, h3⟩; exact ⟨⟨by omega, by omega⟩, h3⟩
    · rintro ⟨⟨h1, h2⟩, h3⟩; exact ⟨(a, d), ⟨by simp; omega, ⟨by simpa using h1, by simpa using h2⟩, h3⟩⟩
  have hmono : mayB t b c = true → mayB t a d = true := by simp only [mayB, Bool.and_eq_true, decide_eq_true_eq]; omega
  rw [hall, hany]
  unfold knownP
  rw [if_neg (by simp [h]), if_neg (by simp [hm])]
  cases h1 : dueB t m <;> cases h2 : mayB t a d <;> cases h3 : mayB t b c <;> simp_all
  by_cases e : a = b ∧ d = c
  · obtain ⟨rfl, rfl⟩ := e; simp_all
  · intro e1 e2; exact absurd ⟨e1, e2⟩ e
end Go.Proofs.YtppejcmjjjfamaaDoor
