/- terms.Check: its five checks, one by one; the value of a class. -/
import Derived.Test.YtppejcmjjjfamaaDoorTable
import Derived.Test.YtppejcmjjjfamaaDoorPlain
namespace Go.Proofs.YtppejcmjjjfamaaDoor
open Go.RowKit

set_option maxHeartbeats 400000 in
theorem ck1_any (t : TT) (G S : Option Addr) (gc sc : Nat) (w : World) :
    Calls Tryd.prog 152 #[.agg #[.int .i64 t.bg, .int .i64 t.bs, .int .i64 t.price, .int .i64 t.worst, .int .i64 t.short, .slice G t.grades.length gc, .slice S t.staples.length sc, .int .i64 t.dlo, .int .i64 t.dhi, .int .i64 t.bales, .int .i64 t.fee]] w fun e w' => e = .returned (.bool (ck1B t)) ∧ Below w.heap.size w w' := by
  go_enter Tryd.func152, Tryd.ntmps152
  go_wp2_with (go_at_call 92; refine (in_one _ _ _ _ _ _ _ (by simp [go_sem]) (by simp [go_sem]; rfl)).mono ?_; rintro e w' ⟨rfl, hb⟩; obtain ⟨hc, hf⟩ := bcell hb; have hz := (hb).size; (try simp at hz); have hz2 : w.heap.size < (w').heap.size := (by omega))
  all_goals go_ret
  all_goals exact ⟨ret_bool (by simp [ck1B, *]), (by repeat' (first | (with_reducible exact Below.refl _ _) | (with_reducible assumption) | (with_reducible refine Below.alloc ?_ ?_ _) | (with_reducible refine Below.drew ?_) | (with_reducible refine below_drewN ?_ _) | (with_reducible refine Below.setCell ?_ ?_ _) | (with_reducible refine below_up ?_ (by assumption)) | go_size))⟩

set_option maxHeartbeats 400000 in
theorem ck2_any (t : TT) (G S : Option Addr) (gc sc : Nat) (w : World) (hT : TermsA w G S t) :
    Calls Tryd.prog 153 #[.agg #[.int .i64 t.bg, .int .i64 t.bs, .int .i64 t.price, .int .i64 t.worst, .int .i64 t.short, .slice G t.grades.length gc, .slice S t.staples.length sc, .int .i64 t.dlo, .int .i64 t.dhi, .int .i64 t.bales, .int .i64 t.fee]] w fun e w' => e = .returned (.bool (ck2B t)) ∧ Below w.heap.size w w' := by
  have HT := Lib.hid hT
  clear hT
  go_enter Tryd.func153, Tryd.ntmps153
  go_wp2_with fail
  refine (table_any t.grades G gc (-1) (by omega) _ (HT.out.1.alloc _) HT.out.2.2.1).mono ?_
  rintro e w1 ⟨rfl, hb1⟩
  obtain ⟨hc, hf⟩ := bcell hb1; have hz := (hb1).size; (try simp at hz); have hz2 : w.heap.size < (w1).heap.size := (by omega)
  go_wp2_with fail
  · refine (table_any t.staples S sc 1 (by omega) _ ((HT.out.2.1.alloc _).below hb1) HT.out.2.2.2).mono ?_
    rintro e w2 ⟨rfl, hb2⟩
    go_wp2_with fail
    go_ret
    exact ⟨ret_bool (by simp [ck2B, *]), (by repeat' (first | (with_reducible exact Below.refl _ _) | (with_reducible assumption) | (with_reducible refine Below.alloc ?_ ?_ _) | (with_reducible refine Below.drew ?_) | (with_reducible refine below_drewN ?_ _) | (with_reducible refine Below.setCell ?_ ?_ _) | (with_reducible refine below_up ?_ (by assumption)) | go_size))⟩
  · go_ret
    exact ⟨ret_bool (by simp [ck2B, *]), (by repeat' (first | (with_reducible exact Below.refl _ _) | (with_reducible assumption) | (with_reducible refine Below.alloc ?_ ?_ _) | (with_reducible refine Below.drew ?_) | (with_reducible refine below_drewN ?_ _) | (with_reducible refine Below.setCell ?_ ?_ _) | (with_reducible refine below_up ?_ (by assumption)) | go_size))⟩

set_option maxHeartbeats 400000 in
theorem ck4_any (t : TT) (G S : Option Addr) (gc sc : Nat) (w : World) :
    Calls Tryd.prog 155 #[.agg #[.int .i64 t.bg, .int .i64 t.bs, .int .i64 t.price, .int .i64 t.worst, .int .i64 t.short, .slice G t.grades.length gc, .slice S t.staples.length sc, .int .i64 t.dlo, .int .i64 t.dhi, .int .i64 t.bales, .int .i64 t.fee]] w fun e w' => e = .returned (.bool (ck4B t)) ∧ Below w.heap.size w w' := by
  go_enter Tryd.func155, Tryd.ntmps155
  go_wp2_with (first
    | (go_at_call 131; refine (spanned_any _ _ _ _ _).mono ?_; rintro e w' ⟨rfl, hb⟩; obtain ⟨hc, hf⟩ := bcell hb; have hz := (hb).size; (try simp at hz); have hz2 : w.heap.size < (w').heap.size := (by omega))
    | (go_at_call 92; refine (in_one _ _ _ _ _ _ _ (by simp [go_sem]) (by simp [go_sem]; rfl)).mono ?_; rintro e w' ⟨rfl, hb⟩; obtain ⟨hc, hf⟩ := bcell hb; have hz := (hb).size; (try simp at hz); have hz2 : w.heap.size < (w').heap.size := (by omega)))
  all_goals go_ret
  all_goals exact ⟨ret_bool (by simp [ck4B, *]), (by repeat' (first | (with_reducible exact Below.refl _ _) | (with_reducible assumption) | (with_reducible refine Below.alloc ?_ ?_ _) | (with_reducible refine Below.drew ?_) | (with_reducible refine below_drewN ?_ _) | (with_reducible refine Below.setCell ?_ ?_ _) | (with_reducible refine below_up ?_ (by assumption)) | go_size))⟩

set_option maxHeartbeats 400000 in
theorem valueT_any (t : TT) (G S : Option Addr) (gc sc : Nat) (g s : Int) (w : World) (hT : TermsA w G S t) (ht : tabs t) (hg : 1 ≤ g ∧ g ≤ 9) (hs : 1 ≤ s ∧ s ≤ 9) :
    Calls Tryd.prog 80 #[.agg #[.int .i64 t.bg, .int .i64 t.bs, .int .i64 t.price, .int .i64 t.worst, .int .i64 t.short, .slice G t.grades.length gc, .slice S t.staples.length sc, .int .i64 t.dlo, .int .i64 t.dhi, .int .i64 t.bales, .int .i64 t.fee], .agg #[.int .i64 g, .int .i64 s]] w fun e w' => e = .returned (.int .i64 (valueI t g s)) ∧ Below w.heap.size w w' := by
  obtain ⟨bg, og, rfl, hbg, hcg⟩ := hT.1.tab ht.2.1 hg.1 hg.2
  obtain ⟨bs, os, rfl, hbs, hcs⟩ := hT.2.1.tab ht.2.2.1 hs.1 hs.2
  obtain ⟨a1, a2⟩ := ht.at1 hg.1 hg.2
  obtain ⟨b1, b2⟩ := ht.at2 hs.1 hs.2
  obtain ⟨p1, p2⟩ := ht.1
  obtain ⟨g1, g2⟩ := hg
  obtain ⟨s1, s2⟩ := hs
  have lg : g - 1 < t.grades.length := by have := ht.2.1; omega
  have ls : s - 1 < t.staples.length := by have := ht.2.2.1; omega
  have Hfin : Hid (valueI t g s = t.price + tabAt t.grades g + tabAt t.staples s) := rfl
  generalize tabAt t.grades g = x at *
  generalize tabAt t.staples s = y at *
  clear hT ht
  have k1 : IntKind.i64.wrap (g - 1) = g - 1 := IntWalk.i64_in _ (by omega)
  have k2 : IntKind.i64.wrap (s - 1) = s - 1 := IntWalk.i64_in _ (by omega)
  have k3 : IntKind.i64.wrap (t.price + x) = t.price + x := IntWalk.i64_in _ (by omega)
  have k4 : IntKind.i64.wrap (t.price + x + y) = t.price + x + y := IntWalk.i64_in _ (by omega)
  have g0 : 0 ≤ g - 1 := by omega
  have s0 : 0 ≤ s - 1 := by omega
  go_enter Tryd.func80, Tryd.ntmps80
  go_wp2
  go_quiet (fail)
  go_wp2
  go_ret
  exact ⟨ret_int (by rw [Hfin.out]), (by repeat' (first | (with_reducible exact Below.refl _ _) | (with_reducible assumption) | (with_reducible refine Below.alloc ?_ ?_ _) | (with_reducible refine Below.drew ?_) | (with_reducible refine below_drewN ?_ _) | (with_reducible refine Below.setCell ?_ ?_ _) | (with_reducible refine below_up ?_ (by assumption)) | go_size))⟩

set_option maxHeartbeats 1000000 in
theorem ck3_any (t : TT) (G S : Option Addr) (gc sc : Nat) (w : World) (hT : TermsA w G S t) (ht : tabs t) (hg : 1 ≤ t.bg ∧ t.bg ≤ 9) (hs : 1 ≤ t.bs ∧ t.bs ≤ 9) :
    Calls Tryd.prog 154 #[.agg #[.int .i64 t.bg, .int .i64 t.bs, .int .i64 t.price, .int .i64 t.worst, .int .i64 t.short, .slice G t.grades.length gc, .slice S t.staples.length sc, .int .i64 t.dlo, .int .i64 t.dhi, .int .i64 t.bales, .int .i64 t.fee]] w fun e w' => e = .returned (.bool (ck3B t)) ∧ Below w.heap.size w w' := by
  obtain ⟨bg, og, rfl, hbg, hcg⟩ := hT.1.tab ht.2.1 hg.1 hg.2
  obtain ⟨bs, os, rfl, hbs, hcs⟩ := hT.2.1.tab ht.2.2.1 hs.1 hs.2
  have lg : t.bg - 1 < t.grades.length := by have := ht.2.1; omega
  have ls : t.bs - 1 < t.staples.length := by have := ht.2.2.1; omega
  obtain ⟨g1, g2⟩ := hg
  obtain ⟨s1, s2⟩ := hs
  have g0 : 0 ≤ t.bg - 1 := by omega
  have s0 : 0 ≤ t.bs - 1 := by omega
  clear hT ht
  have k1 : IntKind.i64.wrap (t.bg - 1) = t.bg - 1 := IntWalk.i64_in _ (by omega)
  have k2 : IntKind.i64.wrap (t.bs - 1) = t.bs - 1 := IntWalk.i64_in _ (by omega)
  go_enter Tryd.func154, Tryd.ntmps154
  go_wp2_with (go_at_call 92; refine (in_one _ _ _ _ _ _ _ (by simp [go_sem]) (by simp [go_sem]; rfl)).mono ?_; rintro e w' ⟨rfl, hb⟩; obtain ⟨hc, hf⟩ := bcell hb; have hz := (hb).size; (try simp at hz); have hz2 : w.heap.size < (w').heap.size := (by omega))
  all_goals go_ret
  all_goals exact ⟨ret_bool (by simp [ck3B, *]), (by repeat' (first | (with_reducible exact Below.refl _ _) | (with_reducible assumption) | (with_reducible refine Below.alloc ?_ ?_ _) | (with_reducible refine Below.drew ?_) | (with_reducible refine below_drewN ?_ _) | (with_reducible refine Below.setCell ?_ ?_ _) | (with_reducible refine below_up ?_ (by assumption)) | go_size))⟩

set_option maxHeartbeats 400000 in
theorem ck5_any (t : TT) (G S : Option Addr) (gc sc : Nat) (w : World) (hT : TermsA w G S t) (ht : tabs t) (hg : 1 ≤ t.worst ∧ t.worst ≤ 9) (hs : 1 ≤ t.short ∧ t.short ≤ 9) :
    Calls Tryd.prog 156 #[.agg #[.int .i64 t.bg, .int .i64 t.bs, .int .i64 t.price, .int .i64 t.worst, .int .i64 t.short, .slice G t.grades.length gc, .slice S t.staples.length sc, .int .i64 t.dlo, .int .i64 t.dhi, .int .i64 t.bales, .int .i64 t.fee]] w fun e w' => e = .returned (.bool (ck5B t)) ∧ Below w.heap.size w w' := by
  have HV := Lib.hid (valueT_any t G S gc sc t.worst t.short (w.alloc (.cells #[.int .i64 t.bg, .int .i64 t.bs, .int .i64 t.price, .int .i64 t.worst, .int .i64 t.short, .slice G t.grades.length gc, .slice S t.staples.length sc, .int .i64 t.dlo, .int .i64 t.dhi, .int .i64 t.bales, .int .i64 t.fee] 28)) (hT.below ((Below.refl _ _).alloc (Nat.le_refl _) _)) ht hg hs)
  clear hT ht hg hs
  go_enter Tryd.func156, Tryd.ntmps156
  go_wp2_with (go_at_call 80; refine (HV.out).mono ?_; rintro e w' ⟨rfl, hb⟩)
  go_ret
  exact ⟨ret_bool rfl, (by repeat' (first | (with_reducible exact Below.refl _ _) | (with_reducible assumption) | (with_reducible refine Below.alloc ?_ ?_ _) | (with_reducible refine Below.drew ?_) | (with_reducible refine below_drewN ?_ _) | (with_reducible refine Below.setCell ?_ ?_ _) | (with_reducible refine below_up ?_ (by assumption)) | go_size))⟩
end Go.Proofs.YtppejcmjjjfamaaDoor
