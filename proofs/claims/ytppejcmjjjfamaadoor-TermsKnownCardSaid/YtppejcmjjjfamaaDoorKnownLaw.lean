/- middlinglaw04.TermsKnown: the walk. -/
import Derived.Test.YtppejcmjjjfamaaDoorRangeT
import Derived.Test.YtppejcmjjjfamaaDoorRefRange
import Derived.Test.YtppejcmjjjfamaaDoorTwin
import Derived.Test.YtppejcmjjjfamaaDoorSame
namespace Go.Proofs.YtppejcmjjjfamaaDoor
open Go.RowKit

set_option maxRecDepth 100000 in
set_option maxHeartbeats 4000000 in
theorem known_law (t : TT) (G S : Option Addr) (gc sc : Nat) (a b c d m : Int) (w : World) (hL : Laid w) (hT : TermsA w G S t) :
    Calls Tryd.prog 6 #[.agg #[.int .i64 t.bg, .int .i64 t.bs, .int .i64 t.price, .int .i64 t.worst, .int .i64 t.short, .slice G t.grades.length gc, .slice S t.staples.length sc, .int .i64 t.dlo, .int .i64 t.dhi, .int .i64 t.bales, .int .i64 t.fee], .agg #[.int .i64 a, .int .i64 b], .agg #[.int .i64 c, .int .i64 d], .int .i64 m] w fun e w' => e = .returned (.bool true) ∧ Below w.heap.size w w' := by
  cases hgr : greatB t
  · have hlen : t.grades.length ≤ 1000 ∧ t.staples.length ≤ 1000 := by simp [greatB] at hgr; omega
    have HN := Lib.hid hlen
    have HG := Lib.hid hgr
    have HL := Lib.hid hL
    have HT := Lib.hid hT
    have hA := fun G' S' gc' sc' W h1 h2 => knownT_any t G' S' gc' sc' a b c d m W h1 h2
    have hB := fun W h => knownR_any t G S gc sc a b c d m W h
    have hC := fun G' S' gc' sc' W h1 h2 => rangeT_any t G' S' gc' sc' a b c d W h1 h2
    have hD := fun W h => rangeR_any t G S gc sc a b c d W h
    generalize (knownP t a b c d m).1 = x1 at *
    generalize (knownP t a b c d m).2 = x2 at *
    generalize (rangeP t a b c d).1 = x3 at *
    generalize (rangeP t a b c d).2.1 = x4 at *
    generalize (rangeP t a b c d).2.2 = x5 at *
    have HA := Lib.hid hA
    have HB := Lib.hid hB
    have HC := Lib.hid hC
    have HD := Lib.hid hD
    clear hL hT hgr hA hB hC hD hlen
    go_enter Tryd.func6, Tryd.ntmps6
    go_upto_region 3 with (go_at_call 20; refine (greatR_any t G S gc sc _).mono ?_; rw [HG.out]; rintro e w1 ⟨rfl, hb1⟩; obtain ⟨hc, hf⟩ := bcell hb1; have hz := (hb1).size; (try simp at hz); have hz2 : w.heap.size < (w1).heap.size := (by omega); (try have hq1 : w.heap.size + 1 < (w1).heap.size := (by omega)); (try have hq2 : w.heap.size + 1 + 1 < (w1).heap.size := (by omega)); (try have hq3 : w.heap.size + 1 + 1 + 1 < (w1).heap.size := (by omega)))
    go_cut [9] (fun s9 wx => ∃ (G' S' : Option Addr) (gc' sc' k : Nat), s9 = .pointer (some ⟨k, 0, none⟩) ∧ k < wx.heap.size ∧ w.heap.size + 1 + 1 < wx.heap.size ∧ TermsA wx G' S' t ∧ (wx.cell? ⟨k, 0, none⟩ = some (.int .i64 t.bg) ∧ wx.cell? ⟨k, 1, none⟩ = some (.int .i64 t.bs) ∧ wx.cell? ⟨k, 2, none⟩ = some (.int .i64 t.price) ∧ wx.cell? ⟨k, 3, none⟩ = some (.int .i64 t.worst) ∧ wx.cell? ⟨k, 4, none⟩ = some (.int .i64 t.short) ∧ wx.cell? ⟨k, 5, none⟩ = some (.slice G' t.grades.length gc') ∧ wx.cell? ⟨k, 6, none⟩ = some (.slice S' t.staples.length sc') ∧ wx.cell? ⟨k, 7, none⟩ = some (.int .i64 t.dlo) ∧ wx.cell? ⟨k, 8, none⟩ = some (.int .i64 t.dhi) ∧ wx.cell? ⟨k, 9, none⟩ = some (.int .i64 t.bales) ∧ wx.cell? ⟨k, 10, none⟩ = some (.int .i64 t.fee)) ∧ (wx.cell? ⟨w.heap.size, 0, none⟩ = some (.int .i64 t.bg) ∧ wx.cell? ⟨w.heap.size, 1, none⟩ = some (.int .i64 t.bs) ∧ wx.cell? ⟨w.heap.size, 2, none⟩ = some (.int .i64 t.price) ∧ wx.cell? ⟨w.heap.size, 3, none⟩ = some (.int .i64 t.worst) ∧ wx.cell? ⟨w.heap.size, 4, none⟩ = some (.int .i64 t.short) ∧ wx.cell? ⟨w.heap.size, 5, none⟩ = some (.slice G t.grades.length gc) ∧ wx.cell? ⟨w.heap.size, 6, none⟩ = some (.slice S t.staples.length sc) ∧ wx.cell? ⟨w.heap.size, 7, none⟩ = some (.int .i64 t.dlo) ∧ wx.cell? ⟨w.heap.size, 8, none⟩ = some (.int .i64 t.dhi) ∧ wx.cell? ⟨w.heap.size, 9, none⟩ = some (.int .i64 t.bales) ∧ wx.cell? ⟨w.heap.size, 10, none⟩ = some (.int .i64 t.fee)) ∧ (wx.cell? ⟨w.heap.size + 1, 0, none⟩ = some (.int .i64 a) ∧ wx.cell? ⟨w.heap.size + 1, 1, none⟩ = some (.int .i64 b)) ∧ (wx.cell? ⟨w.heap.size + 1 + 1, 0, none⟩ = some (.int .i64 c) ∧ wx.cell? ⟨w.heap.size + 1 + 1, 1, none⟩ = some (.int .i64 d)) ∧ Below w.heap.size w wx)
    case first =>
      go_wp2_with fail
      refine (twinR_any t G S gc sc _ (HT.out.below (by repeat' (first | (with_reducible exact Below.refl _ _) | (with_reducible assumption) | (with_reducible refine Below.alloc ?_ ?_ _) | (with_reducible refine Below.drew ?_) | (with_reducible refine below_drewN ?_ _) | (with_reducible refine Below.setCell ?_ ?_ _) | (with_reducible refine below_up ?_ (by assumption)) | go_size))) HN.out.1 HN.out.2).mono ?_
      rintro e w2 ⟨G', S', gc', sc', rfl, hG, hS, hb2⟩
      have hbw : Below w.heap.size w w2 := (by repeat' (first | (with_reducible exact Below.refl _ _) | (with_reducible assumption) | (with_reducible refine Below.alloc ?_ ?_ _) | (with_reducible refine Below.drew ?_) | (with_reducible refine below_drewN ?_ _) | (with_reducible refine Below.setCell ?_ ?_ _) | (with_reducible refine below_up ?_ (by assumption)) | go_size))
      have q1 := hb2.size
      have q2 := hb1.size
      simp at q2
      have hlt1 : w.heap.size < w1.heap.size := by omega
      have hlt2 : w.heap.size + 1 < w1.heap.size := by omega
      have hlt3 : w.heap.size + 1 + 1 < w1.heap.size := by omega
      have hlt4 : w.heap.size + 1 + 1 < w2.heap.size := by omega
      have hlt5 : w.heap.size < w2.heap.size := by omega
      have hlt6 : w.heap.size + 1 < w2.heap.size := by omega
      have HO : TermsA w2 G' S' t := ⟨hG.ints, hS.ints, HT.out.2.2⟩
      obtain ⟨hc', hf'⟩ := bcell hb2
      go_wp2_with fail
      go_meet
      refine ⟨G', S', gc', sc', _, rfl, ?_, ?_, HO.below (by repeat' (first | (with_reducible exact Below.refl _ _) | (with_reducible assumption) | (with_reducible refine Below.alloc ?_ ?_ _) | (with_reducible refine Below.drew ?_) | (with_reducible refine below_drewN ?_ _) | (with_reducible refine Below.setCell ?_ ?_ _) | (with_reducible refine below_up ?_ (by assumption)) | go_size)), ⟨?_, ?_, ?_, ?_, ?_, ?_, ?_, ?_, ?_, ?_, ?_⟩, ⟨?_, ?_, ?_, ?_, ?_, ?_, ?_, ?_, ?_, ?_, ?_⟩, ⟨?_, ?_⟩, ⟨?_, ?_⟩, (by repeat' (first | (with_reducible exact Below.refl _ _) | (with_reducible assumption) | (with_reducible refine Below.alloc ?_ ?_ _) | (with_reducible refine Below.drew ?_) | (with_reducible refine below_drewN ?_ _) | (with_reducible refine Below.setCell ?_ ?_ _) | (with_reducible refine below_up ?_ (by assumption)) | go_size))⟩
      all_goals first | (simp [*, go_sem]; done) | (simp (disch := (first | omega | (simp only [World.size_alloc, World.size_drew, World.size_setCell]; omega) | (simp; done))) [*, go_sem]; done) | (simp [*, go_sem]; omega)
    case rest =>
      obtain ⟨G', S', gc', sc', k, rfl, hk, hsz, hO, ⟨z0, z1, z2, z3, z4, z5, z6, z7, z8, z9, z10⟩, ⟨c0, c1, c2, c3, c4, c5, c6, c7, c8, c9, c10⟩, ⟨d0, d1⟩, ⟨e0, e1⟩, hbW⟩ := hcut
      have HO := Lib.hid hO
      clear hO
      have k0 : w.heap.size < wc.heap.size := by omega
      have k1 : w.heap.size + 1 < wc.heap.size := by omega
      go_wp2_with fail
      refine (HA.out G' S' gc' sc' _ (HL.out.below (by repeat' (first | (with_reducible exact Below.refl _ _) | (with_reducible assumption) | (with_reducible refine Below.alloc ?_ ?_ _) | (with_reducible refine Below.drew ?_) | (with_reducible refine below_drewN ?_ _) | (with_reducible refine Below.setCell ?_ ?_ _) | (with_reducible refine below_up ?_ (by assumption)) | go_size))) (HO.out.below (by repeat' (first | (with_reducible exact Below.refl _ _) | (with_reducible assumption) | (with_reducible refine Below.alloc ?_ ?_ _) | (with_reducible refine Below.drew ?_) | (with_reducible refine below_drewN ?_ _) | (with_reducible refine Below.setCell ?_ ?_ _) | (with_reducible refine below_up ?_ (by assumption)) | go_size)))).mono ?_
      rintro e w3 ⟨rfl, hb3⟩
      obtain ⟨hc, hf⟩ := bcell hb3
      have n3 := hb3.size
      go_wp2_with fail
      refine (HB.out _ (HT.out.below (by repeat' (first | (with_reducible exact Below.refl _ _) | (with_reducible assumption) | (with_reducible refine Below.alloc ?_ ?_ _) | (with_reducible refine Below.drew ?_) | (with_reducible refine below_drewN ?_ _) | (with_reducible refine Below.setCell ?_ ?_ _) | (with_reducible refine below_up ?_ (by assumption)) | go_size)))).mono ?_
      rintro e w4 ⟨rfl, hb4⟩
      have hb4' : Below wc.heap.size wc w4 := (by repeat' (first | (with_reducible exact Below.refl _ _) | (with_reducible assumption) | (with_reducible refine Below.alloc ?_ ?_ _) | (with_reducible refine Below.drew ?_) | (with_reducible refine below_drewN ?_ _) | (with_reducible refine Below.setCell ?_ ?_ _) | (with_reducible refine below_up ?_ (by assumption)) | go_size))
      clear hc hf
      obtain ⟨hc, hf⟩ := bcell hb4'
      have n4 := hb4.size
      go_wp2_with fail
      refine (HC.out G' S' gc' sc' _ (HL.out.below (by repeat' (first | (with_reducible exact Below.refl _ _) | (with_reducible assumption) | (with_reducible refine Below.alloc ?_ ?_ _) | (with_reducible refine Below.drew ?_) | (with_reducible refine below_drewN ?_ _) | (with_reducible refine Below.setCell ?_ ?_ _) | (with_reducible refine below_up ?_ (by assumption)) | go_size))) (HO.out.below (by repeat' (first | (with_reducible exact Below.refl _ _) | (with_reducible assumption) | (with_reducible refine Below.alloc ?_ ?_ _) | (with_reducible refine Below.drew ?_) | (with_reducible refine below_drewN ?_ _) | (with_reducible refine Below.setCell ?_ ?_ _) | (with_reducible refine below_up ?_ (by assumption)) | go_size)))).mono ?_
      rintro e w5 ⟨rfl, hb5⟩
      have hb5' : Below wc.heap.size wc w5 := (by repeat' (first | (with_reducible exact Below.refl _ _) | (with_reducible assumption) | (with_reducible refine Below.alloc ?_ ?_ _) | (with_reducible refine Below.drew ?_) | (with_reducible refine below_drewN ?_ _) | (with_reducible refine Below.setCell ?_ ?_ _) | (with_reducible refine below_up ?_ (by assumption)) | go_size))
      clear hc hf
      obtain ⟨hc, hf⟩ := bcell hb5'
      have n5 := hb5.size
      have m1 : k < w5.heap.size := by omega
      have m2 : w.heap.size < w5.heap.size := by omega
      have m3 : w.heap.size + 1 < w5.heap.size := by omega
      have m4 : w.heap.size + 1 + 1 < w5.heap.size := by omega
      go_wp2_with fail
      refine (HD.out _ (HT.out.below (by repeat' (first | (with_reducible exact Below.refl _ _) | (with_reducible assumption) | (with_reducible refine Below.alloc ?_ ?_ _) | (with_reducible refine Below.drew ?_) | (with_reducible refine below_drewN ?_ _) | (with_reducible refine Below.setCell ?_ ?_ _) | (with_reducible refine below_up ?_ (by assumption)) | go_size)))).mono ?_
      rintro e w6 ⟨rfl, hb6⟩
      have hb6' : Below wc.heap.size wc w6 := (by repeat' (first | (with_reducible exact Below.refl _ _) | (with_reducible assumption) | (with_reducible refine Below.alloc ?_ ?_ _) | (with_reducible refine Below.drew ?_) | (with_reducible refine below_drewN ?_ _) | (with_reducible refine Below.setCell ?_ ?_ _) | (with_reducible refine below_up ?_ (by assumption)) | go_size))
      have v0 := hb6.cell (p := ⟨w5.heap.size, 0, none⟩) (by simp)
      have v1 := hb6.cell (p := ⟨w5.heap.size, 1, none⟩) (by simp)
      simp [go_sem] at v0 v1
      clear hc hf
      obtain ⟨hc, hf⟩ := bcell hb6'
      have n6 := hb6.size
      simp at n6
      have m5 : k < w6.heap.size := by omega
      have m6 : w.heap.size < w6.heap.size := by omega
      have m7 : w5.heap.size < w6.heap.size := by omega
      go_wp2_with (go_at_call 28; refine (sameR_same t G' S' gc' sc' G S gc sc _ (HO.out.below (by repeat' (first | (with_reducible exact Below.refl _ _) | (with_reducible assumption) | (with_reducible refine Below.alloc ?_ ?_ _) | (with_reducible refine Below.drew ?_) | (with_reducible refine below_drewN ?_ _) | (with_reducible refine Below.setCell ?_ ?_ _) | (with_reducible refine below_up ?_ (by assumption)) | go_size))) (HT.out.below (by repeat' (first | (with_reducible exact Below.refl _ _) | (with_reducible assumption) | (with_reducible refine Below.alloc ?_ ?_ _) | (with_reducible refine Below.drew ?_) | (with_reducible refine below_drewN ?_ _) | (with_reducible refine Below.setCell ?_ ?_ _) | (with_reducible refine below_up ?_ (by assumption)) | go_size)))).mono ?_; rintro e w' ⟨rfl, hb⟩)
      go_ret
      exact ⟨rfl, (by repeat' (first | (with_reducible exact Below.refl _ _) | (with_reducible assumption) | (with_reducible refine Below.alloc ?_ ?_ _) | (with_reducible refine Below.drew ?_) | (with_reducible refine below_drewN ?_ _) | (with_reducible refine Below.setCell ?_ ?_ _) | (with_reducible refine below_up ?_ (by assumption)) | go_size))⟩
  · have HG := Lib.hid hgr
    clear hL hT hgr
    go_enter Tryd.func6, Tryd.ntmps6
    go_wp2_with (go_at_call 20; refine (greatR_any t G S gc sc _).mono ?_; rw [HG.out]; rintro e w1 ⟨rfl, hb1⟩)
    go_ret
    exact ⟨rfl, (by repeat' (first | (with_reducible exact Below.refl _ _) | (with_reducible assumption) | (with_reducible refine Below.alloc ?_ ?_ _) | (with_reducible refine Below.drew ?_) | (with_reducible refine below_drewN ?_ _) | (with_reducible refine Below.setCell ?_ ?_ _) | (with_reducible refine below_up ?_ (by assumption)) | go_size))⟩
end Go.Proofs.YtppejcmjjjfamaaDoor
