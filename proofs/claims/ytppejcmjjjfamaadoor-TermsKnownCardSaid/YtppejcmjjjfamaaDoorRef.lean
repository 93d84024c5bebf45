/- middlingref04: within, nine, class, Value, May, SameInts, Great. -/
import Derived.Test.YtppejcmjjjfamaaDoorChecked
import Derived.Test.YtppejcmjjjfamaaDoorPlain
import Derived.Deep.QuietTactic
import Derived.BigQuiet
import Derived.Handy
namespace Go.Proofs.YtppejcmjjjfamaaDoor
open Go.RowKit

set_option maxHeartbeats 400000 in
theorem withinR_any (n lo hi : Int) (w : World) :
    Calls Tryd.prog 76 #[.int .i64 n, .int .i64 lo, .int .i64 hi] w fun e w' => e = .returned (.bool (inB lo hi n)) ∧ w = w' := by
  by_cases h : lo ≤ n
  · have Hr := Lib.hid (show inB lo hi n = decide (n ≤ hi) by simp [inB, h])
    go_enter Tryd.func76, Tryd.ntmps76
    go_wp2
    go_ret
    exact ⟨ret_bool (by rw [Hr.out]), rfl⟩
  · have Hr := Lib.hid (show inB lo hi n = false by simp [inB, h])
    go_enter Tryd.func76, Tryd.ntmps76
    go_wp2
    go_ret
    exact ⟨ret_bool (by rw [Hr.out]), rfl⟩

/-- the error of a class -/
def errC (g s : Int) : Int := if inB 1 9 g = true then (if inB 1 9 s = true then 0 else 42) else 41
set_option maxHeartbeats 400000 in
theorem classR_any (g s : Int) (w : World) :
    Calls Tryd.prog 83 #[.agg #[.int .i64 g, .int .i64 s]] w fun e w' => e = .returned (.int .i64 (errC g s)) ∧ Below w.heap.size w w' := by
  cases h1 : inB 1 9 g
  · have Hr := Lib.hid (show errC g s = 41 by simp [errC, h1])
    have H1 := Lib.hid h1
    clear h1
    go_enter Tryd.func83, Tryd.ntmps83
    go_wp2_with (go_at_call 76; refine (withinR_any _ _ _ _).mono ?_; rw [H1.out]; rintro e w' ⟨rfl, rfl⟩)
    go_ret
    exact ⟨ret_int (by rw [Hr.out]), (by repeat' (first | (with_reducible exact Below.refl _ _) | (with_reducible assumption) | (with_reducible refine Below.alloc ?_ ?_ _) | (with_reducible refine Below.drew ?_) | (with_reducible refine below_drewN ?_ _) | (with_reducible refine Below.setCell ?_ ?_ _) | (with_reducible refine below_up ?_ (by assumption)) | go_size))⟩
  · cases h2 : inB 1 9 s
    · have Hr := Lib.hid (show errC g s = 42 by simp [errC, h1, h2])
      have H1 := Lib.hid h1
      have H2 := Lib.hid h2
      clear h1 h2
      go_enter Tryd.func83, Tryd.ntmps83
      go_wp2_with (go_at_call 76; refine (withinR_any _ _ _ _).mono ?_; (first | rw [H1.out] | rw [H2.out]); rintro e w' ⟨rfl, rfl⟩)
      go_ret
      exact ⟨ret_int (by rw [Hr.out]), (by repeat' (first | (with_reducible exact Below.refl _ _) | (with_reducible assumption) | (with_reducible refine Below.alloc ?_ ?_ _) | (with_reducible refine Below.drew ?_) | (with_reducible refine below_drewN ?_ _) | (with_reducible refine Below.setCell ?_ ?_ _) | (with_reducible refine below_up ?_ (by assumption)) | go_size))⟩
    · have Hr := Lib.hid (show errC g s = 0 by simp [errC, h1, h2])
      have H1 := Lib.hid h1
      have H2 := Lib.hid h2
      clear h1 h2
      go_enter Tryd.func83, Tryd.ntmps83
      go_wp2_with (go_at_call 76; refine (withinR_any _ _ _ _).mono ?_; (first | rw [H1.out] | rw [H2.out]); rintro e w' ⟨rfl, rfl⟩)
      go_ret
      exact ⟨ret_int (by rw [Hr.out]), (by repeat' (first | (with_reducible exact Below.refl _ _) | (with_reducible assumption) | (with_reducible refine Below.alloc ?_ ?_ _) | (with_reducible refine Below.drew ?_) | (with_reducible refine below_drewN ?_ _) | (with_reducible refine Below.setCell ?_ ?_ _) | (with_reducible refine below_up ?_ (by assumption)) | go_size))⟩

set_option maxHeartbeats 400000 in
theorem valueR_any (t : TT) (G S : Option Addr) (gc sc : Nat) (g s : Int) (w : World) (hT : TermsA w G S t) (ht : tabs t) (hg : 1 ≤ g ∧ g ≤ 9) (hs : 1 ≤ s ∧ s ≤ 9) :
    Calls Tryd.prog 73 #[.agg #[.int .i64 t.bg, .int .i64 t.bs, .int .i64 t.price, .int .i64 t.worst, .int .i64 t.short, .slice G t.grades.length gc, .slice S t.staples.length sc, .int .i64 t.dlo, .int .i64 t.dhi, .int .i64 t.bales, .int .i64 t.fee], .agg #[.int .i64 g, .int .i64 s]] w fun e w' => e = .returned (.int .i64 (valueI t g s)) ∧ Below w.heap.size w w' := by
  obtain ⟨bg, og, rfl, hbg, hcg⟩ := hT.1.tab ht.2.1 hg.1 hg.2
  obtain ⟨bs, os, rfl, hbs, hcs⟩ := hT.2.1.tab ht.2.2.1 hs.1 hs.2
  obtain ⟨a1, a2⟩ := ht.at1 hg.1 hg.2
  obtain ⟨b1, b2⟩ := ht.at2 hs.1 hs.2
  obtain ⟨p1, p2⟩ := ht.1
  obtain ⟨g1, g2⟩ := hg
  obtain ⟨s1, s2⟩ := hs
  have lg : g - 1 < t.grades.length := by have := ht.2.1; omega
  have ls : s - 1 < t.staples.length := by have := ht.2.2.1; omega
  have Hfin : Hid (valueI t g s = t.price + tabAt t.grades g + tabAt t.staples s) := rfl
  generalize tabAt t.grades g = x at *
  generalize tabAt t.staples s = y at *
  clear hT ht
  have k1 : IntKind.i64.wrap (g - 1) = g - 1 := IntWalk.i64_in _ (by omega)
  have k2 : IntKind.i64.wrap (s - 1) = s - 1 := IntWalk.i64_in _ (by omega)
  have k3 : IntKind.i64.wrap (t.price + x) = t.price + x := IntWalk.i64_in _ (by omega)
  have k4 : IntKind.i64.wrap (t.price + x + y) = t.price + x + y := IntWalk.i64_in _ (by omega)
  have g0 : 0 ≤ g - 1 := by omega
  have s0 : 0 ≤ s - 1 := by omega
  go_enter Tryd.func73, Tryd.ntmps73
  go_wp2
  go_quiet (fail)
  go_wp2
  go_ret
  exact ⟨ret_int (by rw [Hfin.out]), (by repeat' (first | (with_reducible exact Below.refl _ _) | (with_reducible assumption) | (with_reducible refine Below.alloc ?_ ?_ _) | (with_reducible refine Below.drew ?_) | (with_reducible refine below_drewN ?_ _) | (with_reducible refine Below.setCell ?_ ?_ _) | (with_reducible refine below_up ?_ (by assumption)) | go_size))⟩

set_option maxHeartbeats 400000 in
theorem mayR_any (t : TT) (G S : Option Addr) (gc sc : Nat) (g s : Int) (w : World) :
    Calls Tryd.prog 68 #[.agg #[.int .i64 t.bg, .int .i64 t.bs, .int .i64 t.price, .int .i64 t.worst, .int .i64 t.short, .slice G t.grades.length gc, .slice S t.staples.length sc, .int .i64 t.dlo, .int .i64 t.dhi, .int .i64 t.bales, .int .i64 t.fee], .agg #[.int .i64 g, .int .i64 s]] w fun e w' => e = .returned (.bool (mayB t g s)) ∧ Below w.heap.size w w' := by
  by_cases h : g ≤ t.worst
  · have Hr := Lib.hid (show mayB t g s = decide (t.short ≤ s) by simp [mayB, h])
    go_enter Tryd.func68, Tryd.ntmps68
    go_wp2
    go_ret
    exact ⟨ret_bool (by rw [Hr.out]), (by repeat' (first | (with_reducible exact Below.refl _ _) | (with_reducible assumption) | (with_reducible refine Below.alloc ?_ ?_ _) | (with_reducible refine Below.drew ?_) | (with_reducible refine below_drewN ?_ _) | (with_reducible refine Below.setCell ?_ ?_ _) | (with_reducible refine below_up ?_ (by assumption)) | go_size))⟩
  · have Hr := Lib.hid (show mayB t g s = false by simp [mayB, h])
    go_enter Tryd.func68, Tryd.ntmps68
    go_wp2
    go_ret
    exact ⟨ret_bool (by rw [Hr.out]), (by repeat' (first | (with_reducible exact Below.refl _ _) | (with_reducible assumption) | (with_reducible refine Below.alloc ?_ ?_ _) | (with_reducible refine Below.drew ?_) | (with_reducible refine below_drewN ?_ _) | (with_reducible refine Below.setCell ?_ ?_ _) | (with_reducible refine below_up ?_ (by assumption)) | go_size))⟩

/-- terms are larger than the statements consider -/
def greatB (t : TT) : Bool := decide (30 < t.grades.length) || decide (30 < t.staples.length)
set_option maxHeartbeats 400000 in
theorem greatR_any (t : TT) (G S : Option Addr) (gc sc : Nat) (w : World) :
    Calls Tryd.prog 20 #[.agg #[.int .i64 t.bg, .int .i64 t.bs, .int .i64 t.price, .int .i64 t.worst, .int .i64 t.short, .slice G t.grades.length gc, .slice S t.staples.length sc, .int .i64 t.dlo, .int .i64 t.dhi, .int .i64 t.bales, .int .i64 t.fee]] w fun e w' => e = .returned (.bool (greatB t)) ∧ Below w.heap.size w w' := by
  by_cases h : 30 < t.grades.length
  · have Hr := Lib.hid (show greatB t = true by simp [greatB, h])
    go_enter Tryd.func20, Tryd.ntmps20
    go_wp2
    go_ret
    exact ⟨ret_bool (by rw [Hr.out]), (by repeat' (first | (with_reducible exact Below.refl _ _) | (with_reducible assumption) | (with_reducible refine Below.alloc ?_ ?_ _) | (with_reducible refine Below.drew ?_) | (with_reducible refine below_drewN ?_ _) | (with_reducible refine Below.setCell ?_ ?_ _) | (with_reducible refine below_up ?_ (by assumption)) | go_size))⟩
  · have Hr := Lib.hid (show greatB t = decide ((30 : Int) < t.staples.length) by simp [greatB, h]; omega)
    go_enter Tryd.func20, Tryd.ntmps20
    go_wp2
    go_ret
    exact ⟨ret_bool (by rw [Hr.out]; simp; omega), (by repeat' (first | (with_reducible exact Below.refl _ _) | (with_reducible assumption) | (with_reducible refine Below.alloc ?_ ?_ _) | (with_reducible refine Below.drew ?_) | (with_reducible refine below_drewN ?_ _) | (with_reducible refine Below.setCell ?_ ?_ _) | (with_reducible refine below_up ?_ (by assumption)) | go_size))⟩

/-- two lists of numbers are the same up to a place -/
def sameTo (xs ys : List Int) (k : Nat) : Prop := ∀ j, j < k → nth xs j = nth ys j
def sameB (xs ys : List Int) : Bool := decide (xs = ys)
theorem sameB_len {xs ys : List Int} (h : xs.length ≠ ys.length) : sameB xs ys = false := by
  simp only [sameB, decide_eq_false_iff_not]; intro e; exact h (by rw [e])
theorem sameB_at {xs ys : List Int} {k : Nat} (h : nth xs k ≠ nth ys k) : sameB xs ys = false := by
  simp only [sameB, decide_eq_false_iff_not]; intro e; exact h (by rw [e])
theorem sameB_all {xs ys : List Int} (hl : xs.length = ys.length) (h : sameTo xs ys xs.length) : sameB xs ys = true := by
  simp only [sameB, decide_eq_true_eq]
  refine List.ext_getElem hl fun i h1 h2 => ?_
  have := h i h1
  rwa [nth_lt h1, nth_lt h2] at this

set_option maxHeartbeats 400000 in
theorem sameIntsR_any (xs ys : List Int) (A B : Option Addr) (c d : Nat) (w : World) (hA : IntsA w A xs) (hB : IntsA w B ys) (hx : xs.length ≤ maxLen) (hy : ys.length ≤ maxLen) :
    Calls Tryd.prog 31 #[.slice A xs.length c, .slice B ys.length d] w fun e w' => e = .returned (.bool (sameB xs ys)) ∧ Below w.heap.size w w' := by
  unfold maxLen at hx hy
  by_cases hl : xs.length = ys.length
  · have hl' : ((xs.length : Int) != ys.length) = false := by simp; omega
    have HL := Lib.hid hl
    have HA := Lib.hid hA
    have HB := Lib.hid hB
    clear hl hA hB
    go_enter Tryd.func31, Tryd.ntmps31
    go_wp2
    clear hl'
    go_loopw [5] (fun i wr => ∃ k : Nat, k ≤ xs.length ∧ i = .int .i64 k ∧ Hid (sameTo xs ys k) ∧ Below w.heap.size w wr) (fun i _ => xs.length - (intOf i).toNat)
    case atStart => exact ⟨0, Nat.zero_le _, rfl, (fun j hj => by omega), (by repeat' (first | (with_reducible exact Below.refl _ _) | (with_reducible assumption) | (with_reducible refine Below.alloc ?_ ?_ _) | (with_reducible refine Below.drew ?_) | (with_reducible refine below_drewN ?_ _) | (with_reducible refine Below.setCell ?_ ?_ _) | (with_reducible refine below_up ?_ (by assumption)) | go_size))⟩
    case round =>
      obtain ⟨k, hk, rfl, hs, hbr⟩ := hrel
      by_cases hlt : k < xs.length
      · have hlt2 : k < ys.length := by have := HL.out; omega
        obtain ⟨b1, o1, rfl, hb1, hc1⟩ := (HA.out.below hbr) (by omega)
        obtain ⟨b2, o2, rfl, hb2, hc2⟩ := (HB.out.below hbr) (by omega)
        have hk1 := hc1 k hlt
        have hk2 := hc2 k hlt2
        clear hc1 hc2
        have hlt3 : (k : Int) < xs.length := by omega
        have hlt4 : (k : Int) < ys.length := by omega
        by_cases he : nth xs k = nth ys k
        · have hs' := Lib.hid (show sameTo xs ys (k + 1) from fun j hj => by
            by_cases e : j = k
            · subst e; exact he
            · exact hs.out j (by omega))
          have he' : (nth xs k != nth ys k) = false := by simp [he]
          clear he hs
          go_wp2
          go_quiet (fail)
          go_wp2
          go_roundw
          case rel => exact ⟨k + 1, by omega, by go_num, hs'.out, (by repeat' (first | (with_reducible exact Below.refl _ _) | (with_reducible assumption) | (with_reducible refine Below.alloc ?_ ?_ _) | (with_reducible refine Below.drew ?_) | (with_reducible refine below_drewN ?_ _) | (with_reducible refine Below.setCell ?_ ?_ _) | (with_reducible refine below_up ?_ (by assumption)) | go_size))⟩
          case measure => simp [intOf]; omega
        · have Hf := Lib.hid (sameB_at he)
          have he' : (nth xs k != nth ys k) = true := by simp [he]
          clear he hs
          go_wp2
          go_quiet (fail)
          go_wp2
          go_ret
          exact ⟨ret_bool Hf.out.symm, (by repeat' (first | (with_reducible exact Below.refl _ _) | (with_reducible assumption) | (with_reducible refine Below.alloc ?_ ?_ _) | (with_reducible refine Below.drew ?_) | (with_reducible refine below_drewN ?_ _) | (with_reducible refine Below.setCell ?_ ?_ _) | (with_reducible refine below_up ?_ (by assumption)) | go_size))⟩
      · have : k = xs.length := by omega
        subst this
        have Hf := Lib.hid (sameB_all HL.out hs.out)
        go_wp2
        go_ret
        exact ⟨ret_bool Hf.out.symm, (by repeat' (first | (with_reducible exact Below.refl _ _) | (with_reducible assumption) | (with_reducible refine Below.alloc ?_ ?_ _) | (with_reducible refine Below.drew ?_) | (with_reducible refine below_drewN ?_ _) | (with_reducible refine Below.setCell ?_ ?_ _) | (with_reducible refine below_up ?_ (by assumption)) | go_size))⟩
  · have hl' : ((xs.length : Int) != ys.length) = true := by simp; omega
    have Hf := Lib.hid (sameB_len hl)
    clear hl hA hB
    go_enter Tryd.func31, Tryd.ntmps31
    go_wp2
    go_ret
    exact ⟨ret_bool Hf.out.symm, (by repeat' (first | (with_reducible exact Below.refl _ _) | (with_reducible assumption) | (with_reducible refine Below.alloc ?_ ?_ _) | (with_reducible refine Below.drew ?_) | (with_reducible refine below_drewN ?_ _) | (with_reducible refine Below.setCell ?_ ?_ _) | (with_reducible refine below_up ?_ (by assumption)) | go_size))⟩
end Go.Proofs.YtppejcmjjjfamaaDoor
