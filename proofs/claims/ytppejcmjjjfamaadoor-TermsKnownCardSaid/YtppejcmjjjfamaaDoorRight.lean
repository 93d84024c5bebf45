/- terms.right: the error of grades, and of staples. -/
import Derived.Test.YtppejcmjjjfamaaDoorTable
namespace Go.Proofs.YtppejcmjjjfamaaDoor
open Go.RowKit

/-- A slice's address at which so many pairs of cells read as the spans, below the heap's end. -/
def SpansA (w : World) (A : Option Addr) (l : List (Int × Int)) : Prop :=
  0 < l.length → ∃ b off, A = some ⟨b, off, none⟩ ∧ b < w.heap.size ∧ ∀ i, i < l.length → w.cell? ⟨b, off + i * 2, none⟩ = some (.int .i64 (nth l i).1) ∧ w.cell? ⟨b, off + i * 2 + 1, none⟩ = some (.int .i64 (nth l i).2)
theorem SpansA.below {w w' : World} {A : Option Addr} {l : List (Int × Int)} (h : SpansA w A l) (hb : Below w.heap.size w w') : SpansA w' A l := fun h0 => by
  obtain ⟨b, off, e, hl, hc⟩ := h h0
  exact ⟨b, off, e, Nat.lt_of_lt_of_le hl hb.size, fun i hi => ⟨(hb.cell (p := ⟨b, off + i * 2, none⟩) hl).trans (hc i hi).1, (hb.cell (p := ⟨b, off + i * 2 + 1, none⟩) hl).trans (hc i hi).2⟩⟩
/-- a span is none of grades, or of staples -/
def badSpan (x : Int × Int) : Bool := !spanB 1 9 x.1 x.2

set_option maxHeartbeats 400000 in
theorem right1_any (a b : Int) (w : World) :
    Calls Tryd.prog 130 #[.agg #[.int .i64 a, .int .i64 b]] w fun e w' => e = .returned (.bool (badSpan (a, b))) ∧ Below w.heap.size w w' := by
  go_enter Tryd.func130, Tryd.ntmps130
  go_wp2_with (go_at_call 131; refine (spanned_any _ _ _ _ _).mono ?_; rintro e w' ⟨rfl, hb⟩)
  go_ret
  exact ⟨ret_bool rfl, (by repeat' (first | (with_reducible exact Below.refl _ _) | (with_reducible assumption) | (with_reducible refine Below.alloc ?_ ?_ _) | (with_reducible refine Below.drew ?_) | (with_reducible refine below_drewN ?_ _) | (with_reducible refine Below.setCell ?_ ?_ _) | (with_reducible refine below_up ?_ (by assumption)) | go_size))⟩
set_option maxHeartbeats 400000 in
theorem right2_any (a b : Int) (w : World) :
    Calls Tryd.prog 132 #[.agg #[.int .i64 a, .int .i64 b]] w fun e w' => e = .returned (.bool (badSpan (a, b))) ∧ Below w.heap.size w w' := by
  go_enter Tryd.func132, Tryd.ntmps132
  go_wp2_with (go_at_call 131; refine (spanned_any _ _ _ _ _).mono ?_; rintro e w' ⟨rfl, hb⟩)
  go_ret
  exact ⟨ret_bool rfl, (by repeat' (first | (with_reducible exact Below.refl _ _) | (with_reducible assumption) | (with_reducible refine Below.alloc ?_ ?_ _) | (with_reducible refine Below.drew ?_) | (with_reducible refine below_drewN ?_ _) | (with_reducible refine Below.setCell ?_ ?_ _) | (with_reducible refine below_up ?_ (by assumption)) | go_size))⟩

set_option maxHeartbeats 400000 in
theorem idxSpan_right1 (l : List (Int × Int)) (A : Option Addr) (c : Nat) (w : World) (hA : SpansA w A l) (hn : l.length ≤ maxLen) :
    Calls Tryd.prog 134 #[.slice A l.length c, .func (.func 130) #[] #[]] w fun e w' => e = .returned (.int .i64 (findIx badSpan l)) ∧ Below w.heap.size w w' := by
  unfold maxLen at hn
  have HP := Lib.hid right1_any
  have HA := Lib.hid hA
  clear hA
  go_enter Tryd.func134, Tryd.ntmps134
  go_wp2
  go_loopw [8] (fun i wr => ∃ k : Nat, k ≤ l.length ∧ i = .int .i64 k ∧ Hid (noneBefore badSpan l k) ∧ Below w.heap.size w wr) (fun i _ => l.length - (intOf i).toNat)
  case atStart => exact ⟨0, Nat.zero_le _, rfl, noneBefore.zero _ _, (by repeat' (first | (with_reducible exact Below.refl _ _) | (with_reducible assumption) | (with_reducible refine Below.alloc ?_ ?_ _) | (with_reducible refine Below.drew ?_) | (with_reducible refine below_drewN ?_ _) | (with_reducible refine Below.setCell ?_ ?_ _) | (with_reducible refine below_up ?_ (by assumption)) | go_size))⟩
  case round =>
    obtain ⟨k, hk, rfl, hnb, hbr⟩ := hrel
    by_cases hlt : k < l.length
    · obtain ⟨b, off, rfl, hb, hc⟩ := (HA.out.below hbr) (by omega)
      obtain ⟨hc1, hc2⟩ := hc k hlt
      clear hc
      have Hx : Hid (badSpan (nth l k) = badSpan ((nth l k).1, (nth l k).2)) := rfl
      generalize (nth l k).1 = x at hc1 Hx
      generalize (nth l k).2 = y at hc2 Hx
      cases hp : badSpan (nth l k)
      · have Hp := Lib.hid hp
        clear hp
        go_wp2_with fail
        refine (HP.out _ _ _).mono ?_
        rw [← Hx.out, Hp.out]
        rintro e w1 ⟨rfl, hb1⟩
        go_wp2_with fail
        go_roundw
        case rel => exact ⟨k + 1, by omega, by go_num, hnb.out.succ Hp.out, (by repeat' (first | (with_reducible exact Below.refl _ _) | (with_reducible assumption) | (with_reducible refine Below.alloc ?_ ?_ _) | (with_reducible refine Below.drew ?_) | (with_reducible refine below_drewN ?_ _) | (with_reducible refine Below.setCell ?_ ?_ _) | (with_reducible refine below_up ?_ (by assumption)) | go_size))⟩
        case measure => simp [intOf]; omega
      · have Hp := Lib.hid hp
        clear hp
        go_wp2_with fail
        refine (HP.out _ _ _).mono ?_
        rw [← Hx.out, Hp.out]
        rintro e w1 ⟨rfl, hb1⟩
        go_wp2_with fail
        go_ret
        exact ⟨ret_int (findIx_at hnb.out hlt Hp.out), (by repeat' (first | (with_reducible exact Below.refl _ _) | (with_reducible assumption) | (with_reducible refine Below.alloc ?_ ?_ _) | (with_reducible refine Below.drew ?_) | (with_reducible refine below_drewN ?_ _) | (with_reducible refine Below.setCell ?_ ?_ _) | (with_reducible refine below_up ?_ (by assumption)) | go_size))⟩
    · have : k = l.length := by omega
      subst this
      go_wp2
      go_ret
      exact ⟨ret_int (findIx_none hnb.out), (by repeat' (first | (with_reducible exact Below.refl _ _) | (with_reducible assumption) | (with_reducible refine Below.alloc ?_ ?_ _) | (with_reducible refine Below.drew ?_) | (with_reducible refine below_drewN ?_ _) | (with_reducible refine Below.setCell ?_ ?_ _) | (with_reducible refine below_up ?_ (by assumption)) | go_size))⟩

set_option maxHeartbeats 400000 in
theorem cfSpan_right1 (l : List (Int × Int)) (A : Option Addr) (c : Nat) (w : World) (hA : SpansA w A l) (hn : l.length ≤ maxLen) :
    Calls Tryd.prog 129 #[.slice A l.length c, .func (.func 130) #[] #[]] w fun e w' => e = .returned (.bool (l.any badSpan)) ∧ Below w.heap.size w w' := by
  have hc := Lib.hid (idxSpan_right1 l A c w hA hn)
  clear hA hn
  go_enter Tryd.func129, Tryd.ntmps129
  go_wp2_with (go_at_call 134; refine (hc.out).mono ?_; rintro e w' ⟨rfl, hb⟩)
  go_ret
  exact ⟨ret_bool (by rw [← findIx_any]), (by repeat' (first | (with_reducible exact Below.refl _ _) | (with_reducible assumption) | (with_reducible refine Below.alloc ?_ ?_ _) | (with_reducible refine Below.drew ?_) | (with_reducible refine below_drewN ?_ _) | (with_reducible refine Below.setCell ?_ ?_ _) | (with_reducible refine below_up ?_ (by assumption)) | go_size))⟩

set_option maxHeartbeats 400000 in
theorem idxSpan_right2 (l : List (Int × Int)) (A : Option Addr) (c : Nat) (w : World) (hA : SpansA w A l) (hn : l.length ≤ maxLen) :
    Calls Tryd.prog 134 #[.slice A l.length c, .func (.func 132) #[] #[]] w fun e w' => e = .returned (.int .i64 (findIx badSpan l)) ∧ Below w.heap.size w w' := by
  unfold maxLen at hn
  have HP := Lib.hid right2_any
  have HA := Lib.hid hA
  clear hA
  go_enter Tryd.func134, Tryd.ntmps134
  go_wp2
  go_loopw [8] (fun i wr => ∃ k : Nat, k ≤ l.length ∧ i = .int .i64 k ∧ Hid (noneBefore badSpan l k) ∧ Below w.heap.size w wr) (fun i _ => l.length - (intOf i).toNat)
  case atStart => exact ⟨0, Nat.zero_le _, rfl, noneBefore.zero _ _, (by repeat' (first | (with_reducible exact Below.refl _ _) | (with_reducible assumption) | (with_reducible refine Below.alloc ?_ ?_ _) | (with_reducible refine Below.drew ?_) | (with_reducible refine below_drewN ?_ _) | (with_reducible refine Below.setCell ?_ ?_ _) | (with_reducible refine below_up ?_ (by assumption)) | go_size))⟩
  case round =>
    obtain ⟨k, hk, rfl, hnb, hbr⟩ := hrel
    by_cases hlt : k < l.length
    · obtain ⟨b, off, rfl, hb, hc⟩ := (HA.out.below hbr) (by omega)
      obtain ⟨hc1, hc2⟩ := hc k hlt
      clear hc
      have Hx : Hid (badSpan (nth l k) = badSpan ((nth l k).1, (nth l k).2)) := rfl
      generalize (nth l k).1 = x at hc1 Hx
      generalize (nth l k).2 = y at hc2 Hx
      cases hp : badSpan (nth l k)
      · have Hp := Lib.hid hp
        clear hp
        go_wp2_with fail
        refine (HP.out _ _ _).mono ?_
        rw [← Hx.out, Hp.out]
        rintro e w1 ⟨rfl, hb1⟩
        go_wp2_with fail
        go_roundw
        case rel => exact ⟨k + 1, by omega, by go_num, hnb.out.succ Hp.out, (by repeat' (first | (with_reducible exact Below.refl _ _) | (with_reducible assumption) | (with_reducible refine Below.alloc ?_ ?_ _) | (with_reducible refine Below.drew ?_) | (with_reducible refine below_drewN ?_ _) | (with_reducible refine Below.setCell ?_ ?_ _) | (with_reducible refine below_up ?_ (by assumption)) | go_size))⟩
        case measure => simp [intOf]; omega
      · have Hp := Lib.hid hp
        clear hp
        go_wp2_with fail
        refine (HP.out _ _ _).mono ?_
        rw [← Hx.out, Hp.out]
        rintro e w1 ⟨rfl, hb1⟩
        go_wp2_with fail
        go_ret
        exact ⟨ret_int (findIx_at hnb.out hlt Hp.out), (by repeat' (first | (with_reducible exact Below.refl _ _) | (with_reducible assumption) | (with_reducible refine Below.alloc ?_ ?_ _) | (with_reducible refine Below.drew ?_) | (with_reducible refine below_drewN ?_ _) | (with_reducible refine Below.setCell ?_ ?_ _) | (with_reducible refine below_up ?_ (by assumption)) | go_size))⟩
    · have : k = l.length := by omega
      subst this
      go_wp2
      go_ret
      exact ⟨ret_int (findIx_none hnb.out), (by repeat' (first | (with_reducible exact Below.refl _ _) | (with_reducible assumption) | (with_reducible refine Below.alloc ?_ ?_ _) | (with_reducible refine Below.drew ?_) | (with_reducible refine below_drewN ?_ _) | (with_reducible refine Below.setCell ?_ ?_ _) | (with_reducible refine below_up ?_ (by assumption)) | go_size))⟩

set_option maxHeartbeats 400000 in
theorem cfSpan_right2 (l : List (Int × Int)) (A : Option Addr) (c : Nat) (w : World) (hA : SpansA w A l) (hn : l.length ≤ maxLen) :
    Calls Tryd.prog 129 #[.slice A l.length c, .func (.func 132) #[] #[]] w fun e w' => e = .returned (.bool (l.any badSpan)) ∧ Below w.heap.size w w' := by
  have hc := Lib.hid (idxSpan_right2 l A c w hA hn)
  clear hA hn
  go_enter Tryd.func129, Tryd.ntmps129
  go_wp2_with (go_at_call 134; refine (hc.out).mono ?_; rintro e w' ⟨rfl, hb⟩)
  go_ret
  exact ⟨ret_bool (by rw [← findIx_any]), (by repeat' (first | (with_reducible exact Below.refl _ _) | (with_reducible assumption) | (with_reducible refine Below.alloc ?_ ?_ _) | (with_reducible refine Below.drew ?_) | (with_reducible refine below_drewN ?_ _) | (with_reducible refine Below.setCell ?_ ?_ _) | (with_reducible refine below_up ?_ (by assumption)) | go_size))⟩

/-- the error of grades, and of staples -/
def errR (l m : List (Int × Int)) : Int := if l.any badSpan then 41 else if m.any badSpan then 42 else 0
set_option maxHeartbeats 400000 in
theorem rightT_any (l m : List (Int × Int)) (A B : Option Addr) (c d : Nat) (w : World) (hA : SpansA w A l) (hB : SpansA w B m) (hn : l.length ≤ maxLen) (hm : m.length ≤ maxLen) :
    Calls Tryd.prog 113 #[.slice A l.length c, .slice B m.length d] w fun e w' => e = .returned (.int .i64 (errR l m)) ∧ Below w.heap.size w w' := by
  have HA := Lib.hid hA
  have HB := Lib.hid hB
  have Hn := Lib.hid hn
  have Hm := Lib.hid hm
  clear hA hB hn hm
  go_enter Tryd.func113, Tryd.ntmps113
  go_wp2_with fail
  refine (cfSpan_right1 l A c w HA.out Hn.out).mono ?_
  rintro e w1 ⟨rfl, hb1⟩
  cases h1 : l.any badSpan
  · go_wp2_with fail
    refine (cfSpan_right2 m B d _ (HB.out.below hb1) Hm.out).mono ?_
    rintro e w2 ⟨rfl, hb2⟩
    cases h2 : m.any badSpan
    · go_wp2_with fail
      go_ret
      exact ⟨ret_int (by simp [errR, h1, h2]), (by repeat' (first | (with_reducible exact Below.refl _ _) | (with_reducible assumption) | (with_reducible refine Below.alloc ?_ ?_ _) | (with_reducible refine Below.drew ?_) | (with_reducible refine below_drewN ?_ _) | (with_reducible refine Below.setCell ?_ ?_ _) | (with_reducible refine below_up ?_ (by assumption)) | go_size))⟩
    · go_wp2_with fail
      go_ret
      exact ⟨ret_int (by simp [errR, h1, h2]), (by repeat' (first | (with_reducible exact Below.refl _ _) | (with_reducible assumption) | (with_reducible refine Below.alloc ?_ ?_ _) | (with_reducible refine Below.drew ?_) | (with_reducible refine below_drewN ?_ _) | (with_reducible refine Below.setCell ?_ ?_ _) | (with_reducible refine below_up ?_ (by assumption)) | go_size))⟩
  · go_wp2_with fail
    go_ret
    exact ⟨ret_int (by simp [errR, h1]), (by repeat' (first | (with_reducible exact Below.refl _ _) | (with_reducible assumption) | (with_reducible refine Below.alloc ?_ ?_ _) | (with_reducible refine Below.drew ?_) | (with_reducible refine below_drewN ?_ _) | (with_reducible refine Below.setCell ?_ ?_ _) | (with_reducible refine below_up ?_ (by assumption)) | go_size))⟩
end Go.Proofs.YtppejcmjjjfamaaDoor
