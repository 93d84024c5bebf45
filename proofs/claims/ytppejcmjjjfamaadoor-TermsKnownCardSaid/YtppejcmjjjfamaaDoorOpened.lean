/- terms.opened, one, spans, may, due, cmp.Or. -/
import Derived.Test.YtppejcmjjjfamaaDoorCheckAll
import Derived.Test.YtppejcmjjjfamaaDoorRight
import Derived.Deep.RegionHeld3
namespace Go.Proofs.YtppejcmjjjfamaaDoor
open Go.RowKit

/-- the first one that is not 0 -/
def orI (a b : Int) : Int := if a = 0 then b else a
set_option maxHeartbeats 400000 in
theorem cmpOr_any (x y : Int) (b off c : Nat) (w : World) (hx : w.cell? ⟨b, off, none⟩ = some (.int .i64 x)) (hy : w.cell? ⟨b, off + 1, none⟩ = some (.int .i64 y)) :
    Calls Tryd.prog 100 #[.slice (some ⟨b, off, none⟩) 2 c] w fun e w' => e = .returned (.int .i64 (orI x y)) ∧ w = w' := by
  by_cases h : x = 0
  · have Hr := Lib.hid (show orI x y = y by simp [orI, h])
    have hx' : (x != 0) = false := by simp [h]
    clear h
    by_cases h2 : y = 0
    · have Hy := Lib.hid h2
      have hy' : (y != 0) = false := by simp [h2]
      clear h2
      go_enter Tryd.func100, Tryd.ntmps100
      go_wp2
      refine wp_loop_rounds 3 ?_
      rw [rounds_succ]
      go_wp2
      rw [rounds_succ]
      go_wp2
      rw [rounds_succ]
      go_wp2
      go_ret
      exact ⟨ret_int (by rw [Hr.out, Hy.out]), rfl⟩
    · have hy' : (y != 0) = true := by simp [h2]
      clear h2
      go_enter Tryd.func100, Tryd.ntmps100
      go_wp2
      refine wp_loop_rounds 3 ?_
      rw [rounds_succ]
      go_wp2
      rw [rounds_succ]
      go_wp2
      go_ret
      exact ⟨ret_int (by rw [Hr.out]), rfl⟩
  · have Hr := Lib.hid (show orI x y = x by simp [orI, h])
    have hx' : (x != 0) = true := by simp [h]
    clear h
    go_enter Tryd.func100, Tryd.ntmps100
    go_wp2
    refine wp_loop_rounds 3 ?_
    rw [rounds_succ]
    go_wp2
    go_ret
    exact ⟨ret_int (by rw [Hr.out]), rfl⟩

set_option maxHeartbeats 400000 in
theorem oneT_any (n : Int) (w : World) : Calls Tryd.prog 74 #[.int .i64 n] w fun e w' => e = .returned (.agg #[.int .i64 n, .int .i64 n]) ∧ Below w.heap.size w w' := by
  go_enter Tryd.func74, Tryd.ntmps74
  go_wp2
  go_returns
  exact ⟨rfl, (by repeat' (first | (with_reducible exact Below.refl _ _) | (with_reducible assumption) | (with_reducible refine Below.alloc ?_ ?_ _) | (with_reducible refine Below.drew ?_) | (with_reducible refine below_drewN ?_ _) | (with_reducible refine Below.setCell ?_ ?_ _) | (with_reducible refine below_up ?_ (by assumption)) | go_size))⟩
set_option maxHeartbeats 400000 in
theorem spansT_any (A : Option Addr) (n c : Nat) (w : World) : Calls Tryd.prog 78 #[.slice A n c] w fun e w' => e = .returned (.slice A n c) ∧ w = w' := by
  go_enter Tryd.func78, Tryd.ntmps78
  go_wp2
  go_ret
  exact ⟨rfl, rfl⟩
set_option maxHeartbeats 400000 in
theorem mayT_any (t : TT) (G S : Option Addr) (gc sc : Nat) (g s : Int) (w : World) :
    Calls Tryd.prog 79 #[.agg #[.int .i64 t.bg, .int .i64 t.bs, .int .i64 t.price, .int .i64 t.worst, .int .i64 t.short, .slice G t.grades.length gc, .slice S t.staples.length sc, .int .i64 t.dlo, .int .i64 t.dhi, .int .i64 t.bales, .int .i64 t.fee], .agg #[.int .i64 g, .int .i64 s]] w fun e w' => e = .returned (.bool (mayB t g s)) ∧ Below w.heap.size w w' := by
  by_cases h : g ≤ t.worst
  · have Hr := Lib.hid (show mayB t g s = decide (t.short ≤ s) by simp [mayB, h])
    go_enter Tryd.func79, Tryd.ntmps79
    go_wp2
    go_ret
    exact ⟨ret_bool (by rw [Hr.out]), (by repeat' (first | (with_reducible exact Below.refl _ _) | (with_reducible assumption) | (with_reducible refine Below.alloc ?_ ?_ _) | (with_reducible refine Below.drew ?_) | (with_reducible refine below_drewN ?_ _) | (with_reducible refine Below.setCell ?_ ?_ _) | (with_reducible refine below_up ?_ (by assumption)) | go_size))⟩
  · have Hr := Lib.hid (show mayB t g s = false by simp [mayB, h])
    go_enter Tryd.func79, Tryd.ntmps79
    go_wp2
    go_ret
    exact ⟨ret_bool (by rw [Hr.out]), (by repeat' (first | (with_reducible exact Below.refl _ _) | (with_reducible assumption) | (with_reducible refine Below.alloc ?_ ?_ _) | (with_reducible refine Below.drew ?_) | (with_reducible refine below_drewN ?_ _) | (with_reducible refine Below.setCell ?_ ?_ _) | (with_reducible refine below_up ?_ (by assumption)) | go_size))⟩
set_option maxHeartbeats 400000 in
theorem dueT_any (t : TT) (G S : Option Addr) (gc sc : Nat) (m : Int) (w : World) :
    Calls Tryd.prog 82 #[.agg #[.int .i64 t.bg, .int .i64 t.bs, .int .i64 t.price, .int .i64 t.worst, .int .i64 t.short, .slice G t.grades.length gc, .slice S t.staples.length sc, .int .i64 t.dlo, .int .i64 t.dhi, .int .i64 t.bales, .int .i64 t.fee], .int .i64 m] w fun e w' => e = .returned (.bool (dueB t m)) ∧ Below w.heap.size w w' := by
  go_enter Tryd.func82, Tryd.ntmps82
  go_wp2_with (go_at_call 92; refine (in_one _ _ _ _ _ _ _ (by simp [go_sem]) (by simp [go_sem]; rfl)).mono ?_; rintro e w' ⟨rfl, hb⟩)
  go_ret
  exact ⟨ret_bool rfl, (by repeat' (first | (with_reducible exact Below.refl _ _) | (with_reducible assumption) | (with_reducible refine Below.alloc ?_ ?_ _) | (with_reducible refine Below.drew ?_) | (with_reducible refine below_drewN ?_ _) | (with_reducible refine Below.setCell ?_ ?_ _) | (with_reducible refine below_up ?_ (by assumption)) | go_size))⟩

/-- the error of terms, then of grades, then of staples -/
def errO (t : TT) (l m : List (Int × Int)) : Int := orI (errT (okT t)) (errR l m)
set_option maxHeartbeats 1000000 in
theorem openedT_any (t : TT) (G S : Option Addr) (gc sc : Nat) (l m : List (Int × Int)) (A B : Option Addr) (c d : Nat) (w : World) (hL : Laid w) (hT : TermsA w G S t) (hA : SpansA w A l) (hB : SpansA w B m) (hn : l.length ≤ maxLen) (hm : m.length ≤ maxLen) :
    Calls Tryd.prog 77 #[.agg #[.int .i64 t.bg, .int .i64 t.bs, .int .i64 t.price, .int .i64 t.worst, .int .i64 t.short, .slice G t.grades.length gc, .slice S t.staples.length sc, .int .i64 t.dlo, .int .i64 t.dhi, .int .i64 t.bales, .int .i64 t.fee], .slice A l.length c, .slice B m.length d] w fun e w' => e = .returned (.tuple #[.agg #[.int .i64 t.bg, .int .i64 t.bs, .int .i64 t.price, .int .i64 t.worst, .int .i64 t.short, .slice G t.grades.length gc, .slice S t.staples.length sc, .int .i64 t.dlo, .int .i64 t.dhi, .int .i64 t.bales, .int .i64 t.fee], .int .i64 (errO t l m)]) ∧ Below w.heap.size w w' := by
  have hC := fun W h1 h2 => checkT_any t G S gc sc W h1 h2
  have hR := fun W h1 h2 => rightT_any l m A B c d W h1 h2 hn hm
  have Hfin := Lib.hid (show errO t l m = orI (errT (okT t)) (errR l m) from rfl)
  generalize errT (okT t) = x at *
  generalize errR l m = y at *
  have HC := Lib.hid hC
  have HR := Lib.hid hR
  have HL := Lib.hid hL
  have HT := Lib.hid hT
  have HA := Lib.hid hA
  have HB := Lib.hid hB
  clear hL hT hA hB hn hm hC hR
  go_enter Tryd.func77, Tryd.ntmps77
  go_wp2_with fail
  go_region_held3 (fun w' => w'.cell? ⟨w.heap.size, 0, none⟩ = some (.int .i64 t.bg) ∧ w'.cell? ⟨w.heap.size, 1, none⟩ = some (.int .i64 t.bs) ∧ w'.cell? ⟨w.heap.size, 2, none⟩ = some (.int .i64 t.price) ∧ w'.cell? ⟨w.heap.size, 3, none⟩ = some (.int .i64 t.worst) ∧ w'.cell? ⟨w.heap.size, 4, none⟩ = some (.int .i64 t.short) ∧ w'.cell? ⟨w.heap.size, 5, none⟩ = some (.slice G t.grades.length gc) ∧ w'.cell? ⟨w.heap.size, 6, none⟩ = some (.slice S t.staples.length sc) ∧ w'.cell? ⟨w.heap.size, 7, none⟩ = some (.int .i64 t.dlo) ∧ w'.cell? ⟨w.heap.size, 8, none⟩ = some (.int .i64 t.dhi) ∧ w'.cell? ⟨w.heap.size, 9, none⟩ = some (.int .i64 t.bales) ∧ w'.cell? ⟨w.heap.size, 10, none⟩ = some (.int .i64 t.fee)) (first | go_keep) (first
    | (go_at_call 26; refine (HC.out _ (HL.out.below (by repeat' (first | (with_reducible exact Below.refl _ _) | (with_reducible assumption) | (with_reducible refine Below.alloc ?_ ?_ _) | (with_reducible refine Below.drew ?_) | (with_reducible refine below_drewN ?_ _) | (with_reducible refine Below.setCell ?_ ?_ _) | (with_reducible refine below_up ?_ (by assumption)) | go_size))) (HT.out.below (by repeat' (first | (with_reducible exact Below.refl _ _) | (with_reducible assumption) | (with_reducible refine Below.alloc ?_ ?_ _) | (with_reducible refine Below.drew ?_) | (with_reducible refine below_drewN ?_ _) | (with_reducible refine Below.setCell ?_ ?_ _) | (with_reducible refine below_up ?_ (by assumption)) | go_size)))).mono ?_; rintro e w' ⟨rfl, hb⟩; obtain ⟨hc, hf⟩ := bcell hb; have hz := (hb).size; (try simp at hz); have hz2 : w.heap.size < (w').heap.size := (by omega); have hz3 : w.heap.size + 1 < w'.heap.size := (by omega); have hcw := fun o => hc (w.heap.size) o (by first | assumption | omega | (simp; done) | (simp; omega)); have hcv := fun o => hc (w.heap.size + 1) o (by first | assumption | omega | (simp; done) | (simp; omega)))
    | (go_at_call 113; refine (HR.out _ (HA.out.below (by repeat' (first | (with_reducible exact Below.refl _ _) | (with_reducible assumption) | (with_reducible refine Below.alloc ?_ ?_ _) | (with_reducible refine Below.drew ?_) | (with_reducible refine below_drewN ?_ _) | (with_reducible refine Below.setCell ?_ ?_ _) | (with_reducible refine below_up ?_ (by assumption)) | go_size))) (HB.out.below (by repeat' (first | (with_reducible exact Below.refl _ _) | (with_reducible assumption) | (with_reducible refine Below.alloc ?_ ?_ _) | (with_reducible refine Below.drew ?_) | (with_reducible refine below_drewN ?_ _) | (with_reducible refine Below.setCell ?_ ?_ _) | (with_reducible refine below_up ?_ (by assumption)) | go_size)))).mono ?_; rintro e w' ⟨rfl, hb⟩; obtain ⟨hc, hf⟩ := bcell hb; have hz := (hb).size; (try simp at hz); have hz2 : w.heap.size < (w').heap.size := (by omega); have hz3 : w.heap.size + 1 < w'.heap.size := (by omega); have hcw := fun o => hc (w.heap.size) o (by first | assumption | omega | (simp; done) | (simp; omega)); have hcv := fun o => hc (w.heap.size + 1) o (by first | assumption | omega | (simp; done) | (simp; omega)))
    | (go_at_call 100; refine (cmpOr_any x y _ _ _ _ (by simp [go_sem]) (by simp [go_sem])).mono ?_; rintro e w' ⟨rfl, rfl⟩))
  refine exit_gen (fun W1 => W1.cell? ⟨w.heap.size + 1, 0, none⟩ = some (.int .i64 t.bg) ∧ W1.cell? ⟨w.heap.size + 1, 1, none⟩ = some (.int .i64 t.bs) ∧ W1.cell? ⟨w.heap.size + 1, 2, none⟩ = some (.int .i64 t.price) ∧ W1.cell? ⟨w.heap.size + 1, 3, none⟩ = some (.int .i64 t.worst) ∧ W1.cell? ⟨w.heap.size + 1, 4, none⟩ = some (.int .i64 t.short) ∧ W1.cell? ⟨w.heap.size + 1, 5, none⟩ = some (.slice G t.grades.length gc) ∧ W1.cell? ⟨w.heap.size + 1, 6, none⟩ = some (.slice S t.staples.length sc) ∧ W1.cell? ⟨w.heap.size + 1, 7, none⟩ = some (.int .i64 t.dlo) ∧ W1.cell? ⟨w.heap.size + 1, 8, none⟩ = some (.int .i64 t.dhi) ∧ W1.cell? ⟨w.heap.size + 1, 9, none⟩ = some (.int .i64 t.bales) ∧ W1.cell? ⟨w.heap.size + 1, 10, none⟩ = some (.int .i64 t.fee) ∧ Below w.heap.size w W1) ?_ ?_
  · refine ⟨?_, ?_, ?_, ?_, ?_, ?_, ?_, ?_, ?_, ?_, ?_, (by repeat' (first | (with_reducible exact Below.refl _ _) | (with_reducible assumption) | (with_reducible refine Below.alloc ?_ ?_ _) | (with_reducible refine Below.drew ?_) | (with_reducible refine below_drewN ?_ _) | (with_reducible refine Below.setCell ?_ ?_ _) | (with_reducible refine below_up ?_ (by assumption)) | go_size))⟩ <;> (simp [*, go_sem])
  · rintro W1 ⟨c0, c1, c2, c3, c4, c5, c6, c7, c8, c9, c10, hbW⟩
    clear hb hc hf hz hcw hcv
    go_wp2
    refine bodyPost_ret (v := .tuple #[.agg #[.int .i64 t.bg, .int .i64 t.bs, .int .i64 t.price, .int .i64 t.worst, .int .i64 t.short, .slice G t.grades.length gc, .slice S t.staples.length sc, .int .i64 t.dlo, .int .i64 t.dhi, .int .i64 t.bales, .int .i64 t.fee], .int .i64 (orI x y)]) (by simp [results, Tryd.results77, go_sem, c0, c1, c2, c3, c4, c5, c6, c7, c8, c9, c10]) rfl ?_
    exact ⟨by rw [Hfin.out], hbW⟩
end Go.Proofs.YtppejcmjjjfamaaDoor
