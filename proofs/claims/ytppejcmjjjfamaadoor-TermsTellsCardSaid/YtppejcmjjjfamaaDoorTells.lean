/- middlinglaw04.TermsTells: the walk. -/
import Derived.Test.YtppejcmjjjfamaaDoorAllowsLaw
import Derived.Test.YtppejcmjjjfamaaDoorTwin
import Derived.Test.YtppejcmjjjfamaaDoorSame
import Derived.Test.YtppejcmjjjfamaaDoorRefTells
namespace Go.Proofs.YtppejcmjjjfamaaDoor
open Go.RowKit

set_option maxRecDepth 100000 in
set_option maxHeartbeats 8000000 in
theorem tells_any (t : TT) (G S : Option Addr) (gc sc : Nat) (g s m : Int) (w : World) (hL : Laid w) (hT : TermsA w G S t) :
    Calls Tryd.prog 3 #[.agg #[.int .i64 t.bg, .int .i64 t.bs, .int .i64 t.price, .int .i64 t.worst, .int .i64 t.short, .slice G t.grades.length gc, .slice S t.staples.length sc, .int .i64 t.dlo, .int .i64 t.dhi, .int .i64 t.bales, .int .i64 t.fee], .agg #[.int .i64 g, .int .i64 s], .int .i64 m] w fun e w' => e = .returned (.bool true) ∧ Below w.heap.size w w' := by
  cases hgr : greatB t
  · have hlen : t.grades.length ≤ 1000 ∧ t.staples.length ≤ 1000 := by simp [greatB] at hgr; omega
    have HG := Lib.hid hgr
    have HL := Lib.hid hL
    have HT := Lib.hid hT
    have hA := fun G' S' gc' sc' W h1 h2 => allowsT_any t G' S' gc' sc' g s m W h1 h2
    have hB := fun W h => allowsR_any t G S gc sc g s m W h
    have hC := fun G' S' gc' sc' W h1 h2 => invoiceT_any t G' S' gc' sc' g s W h1 h2
    have hD := fun W h => invoiceR_any t G S gc sc g s W h
    have hE := fun G' S' gc' sc' W h1 h2 => checkT_any t G' S' gc' sc' W h1 h2
    have hF := fun W h => checkR_any t G S gc sc W h
    generalize (allowsP t g s m).1 = x1 at *
    generalize (allowsP t g s m).2 = x2 at *
    generalize (invoiceP t g s).1 = x3 at *
    generalize (invoiceP t g s).2 = x4 at *
    rw [show (if okT t = true then (0 : Int) else 40) = errT (okT t) from rfl] at hF
    generalize errT (okT t) = x5 at *
    have HA := Lib.hid hA
    have HB := Lib.hid hB
    have HC := Lib.hid hC
    have HD := Lib.hid hD
    have HE := Lib.hid hE
    have HF := Lib.hid hF
    clear hL hT hgr hA hB hC hD hE hF
    go_enter Tryd.func3, Tryd.ntmps3
    go_wp2_with (go_at_call 20; refine (greatR_any t G S gc sc _).mono ?_; rw [HG.out]; rintro e w1 ⟨rfl, hb1⟩; obtain ⟨hc, hf⟩ := bcell hb1; have hz := (hb1).size; (try simp at hz); have hz2 : w.heap.size < (w1).heap.size := (by omega); (try have hq1 : w.heap.size + 1 < (w1).heap.size := (by omega)); (try have hq2 : w.heap.size + 1 + 1 < (w1).heap.size := (by omega)); (try have hq3 : w.heap.size + 1 + 1 + 1 < (w1).heap.size := (by omega)))
    refine (twinR_any t G S gc sc _ (HT.out.below (by repeat' (first | (with_reducible exact Below.refl _ _) | (with_reducible assumption) | (with_reducible refine Below.alloc ?_ ?_ _) | (with_reducible refine Below.drew ?_) | (with_reducible refine below_drewN ?_ _) | (with_reducible refine Below.setCell ?_ ?_ _) | (with_reducible refine below_up ?_ (by assumption)) | go_size))) hlen.1 hlen.2).mono ?_
    rintro e w2 ⟨G', S', gc', sc', rfl, hG, hS, hb2⟩
    obtain ⟨hc, hf⟩ := bcell hb2; have hz := (hb2).size; (try simp at hz); have hz2 : w.heap.size < (w2).heap.size := (by omega); (try have hq1 : w.heap.size + 1 < (w2).heap.size := (by omega)); (try have hq2 : w.heap.size + 1 + 1 < (w2).heap.size := (by omega)); (try have hq3 : w.heap.size + 1 + 1 + 1 < (w2).heap.size := (by omega))
    have HO := Lib.hid (show TermsA w2 G' S' t from ⟨hG.ints, hS.ints, HT.out.2.2⟩)
    clear hG hS
    go_wp2_with fail
    refine (HA.out G' S' gc' sc' _ (HL.out.below (by repeat' (first | (with_reducible exact Below.refl _ _) | (with_reducible assumption) | (with_reducible refine Below.alloc ?_ ?_ _) | (with_reducible refine Below.drew ?_) | (with_reducible refine below_drewN ?_ _) | (with_reducible refine Below.setCell ?_ ?_ _) | (with_reducible refine below_up ?_ (by assumption)) | go_size))) (HO.out.below (by repeat' (first | (with_reducible exact Below.refl _ _) | (with_reducible assumption) | (with_reducible refine Below.alloc ?_ ?_ _) | (with_reducible refine Below.drew ?_) | (with_reducible refine below_drewN ?_ _) | (with_reducible refine Below.setCell ?_ ?_ _) | (with_reducible refine below_up ?_ (by assumption)) | go_size)))).mono ?_
    rintro e w3 ⟨rfl, hb3⟩
    obtain ⟨hc, hf⟩ := bcell hb3; have hz := (hb3).size; (try simp at hz); have hz2 : w.heap.size < (w3).heap.size := (by omega); (try have hq1 : w.heap.size + 1 < (w3).heap.size := (by omega)); (try have hq2 : w.heap.size + 1 + 1 < (w3).heap.size := (by omega)); (try have hq3 : w.heap.size + 1 + 1 + 1 < (w3).heap.size := (by omega))
    have hp : w2.heap.size < w3.heap.size := by omega
    go_wp2_with fail
    refine (HB.out _ (HT.out.below (by repeat' (first | (with_reducible exact Below.refl _ _) | (with_reducible assumption) | (with_reducible refine Below.alloc ?_ ?_ _) | (with_reducible refine Below.drew ?_) | (with_reducible refine below_drewN ?_ _) | (with_reducible refine Below.setCell ?_ ?_ _) | (with_reducible refine below_up ?_ (by assumption)) | go_size)))).mono ?_
    rintro e w4 ⟨rfl, hb4⟩
    obtain ⟨hc, hf⟩ := bcell hb4; have hz := (hb4).size; (try simp at hz); have hz2 : w.heap.size < (w4).heap.size := (by omega); (try have hq1 : w.heap.size + 1 < (w4).heap.size := (by omega)); (try have hq2 : w.heap.size + 1 + 1 < (w4).heap.size := (by omega)); (try have hq3 : w.heap.size + 1 + 1 + 1 < (w4).heap.size := (by omega))
    have hp : w2.heap.size < w4.heap.size := by omega
    go_wp2_with fail
    refine (HC.out G' S' gc' sc' _ (HL.out.below (by repeat' (first | (with_reducible exact Below.refl _ _) | (with_reducible assumption) | (with_reducible refine Below.alloc ?_ ?_ _) | (with_reducible refine Below.drew ?_) | (with_reducible refine below_drewN ?_ _) | (with_reducible refine Below.setCell ?_ ?_ _) | (with_reducible refine below_up ?_ (by assumption)) | go_size))) (HO.out.below (by repeat' (first | (with_reducible exact Below.refl _ _) | (with_reducible assumption) | (with_reducible refine Below.alloc ?_ ?_ _) | (with_reducible refine Below.drew ?_) | (with_reducible refine below_drewN ?_ _) | (with_reducible refine Below.setCell ?_ ?_ _) | (with_reducible refine below_up ?_ (by assumption)) | go_size)))).mono ?_
    rintro e w5 ⟨rfl, hb5⟩
    obtain ⟨hc, hf⟩ := bcell hb5; have hz := (hb5).size; (try simp at hz); have hz2 : w.heap.size < (w5).heap.size := (by omega); (try have hq1 : w.heap.size + 1 < (w5).heap.size := (by omega)); (try have hq2 : w.heap.size + 1 + 1 < (w5).heap.size := (by omega)); (try have hq3 : w.heap.size + 1 + 1 + 1 < (w5).heap.size := (by omega))
    have hp : w2.heap.size < w5.heap.size := by omega
    go_wp2_with fail
    refine (HD.out _ (HT.out.below (by repeat' (first | (with_reducible exact Below.refl _ _) | (with_reducible assumption) | (with_reducible refine Below.alloc ?_ ?_ _) | (with_reducible refine Below.drew ?_) | (with_reducible refine below_drewN ?_ _) | (with_reducible refine Below.setCell ?_ ?_ _) | (with_reducible refine below_up ?_ (by assumption)) | go_size)))).mono ?_
    rintro e w6 ⟨rfl, hb6⟩
    obtain ⟨hc, hf⟩ := bcell hb6; have hz := (hb6).size; (try simp at hz); have hz2 : w.heap.size < (w6).heap.size := (by omega); (try have hq1 : w.heap.size + 1 < (w6).heap.size := (by omega)); (try have hq2 : w.heap.size + 1 + 1 < (w6).heap.size := (by omega)); (try have hq3 : w.heap.size + 1 + 1 + 1 < (w6).heap.size := (by omega))
    have hp : w2.heap.size < w6.heap.size := by omega
    go_wp2_with fail
    go_region_held3 (fun w' => (w'.cell? ⟨w.heap.size, 0, none⟩ = some (.int .i64 t.bg) ∧ w'.cell? ⟨w.heap.size, 1, none⟩ = some (.int .i64 t.bs) ∧ w'.cell? ⟨w.heap.size, 2, none⟩ = some (.int .i64 t.price) ∧ w'.cell? ⟨w.heap.size, 3, none⟩ = some (.int .i64 t.worst) ∧ w'.cell? ⟨w.heap.size, 4, none⟩ = some (.int .i64 t.short) ∧ w'.cell? ⟨w.heap.size, 5, none⟩ = some (.slice G t.grades.length gc) ∧ w'.cell? ⟨w.heap.size, 6, none⟩ = some (.slice S t.staples.length sc) ∧ w'.cell? ⟨w.heap.size, 7, none⟩ = some (.int .i64 t.dlo) ∧ w'.cell? ⟨w.heap.size, 8, none⟩ = some (.int .i64 t.dhi) ∧ w'.cell? ⟨w.heap.size, 9, none⟩ = some (.int .i64 t.bales) ∧ w'.cell? ⟨w.heap.size, 10, none⟩ = some (.int .i64 t.fee)) ∧ (w'.cell? ⟨w2.heap.size, 0, none⟩ = some (.int .i64 t.bg) ∧ w'.cell? ⟨w2.heap.size, 1, none⟩ = some (.int .i64 t.bs) ∧ w'.cell? ⟨w2.heap.size, 2, none⟩ = some (.int .i64 t.price) ∧ w'.cell? ⟨w2.heap.size, 3, none⟩ = some (.int .i64 t.worst) ∧ w'.cell? ⟨w2.heap.size, 4, none⟩ = some (.int .i64 t.short) ∧ w'.cell? ⟨w2.heap.size, 5, none⟩ = some (.slice G' t.grades.length gc') ∧ w'.cell? ⟨w2.heap.size, 6, none⟩ = some (.slice S' t.staples.length sc') ∧ w'.cell? ⟨w2.heap.size, 7, none⟩ = some (.int .i64 t.dlo) ∧ w'.cell? ⟨w2.heap.size, 8, none⟩ = some (.int .i64 t.dhi) ∧ w'.cell? ⟨w2.heap.size, 9, none⟩ = some (.int .i64 t.bales) ∧ w'.cell? ⟨w2.heap.size, 10, none⟩ = some (.int .i64 t.fee))) (first | (simp [*, go_sem]; done) | (simp [*, go_sem]; omega)) (first
      | (go_at_call 26; refine (HE.out G' S' gc' sc' _ (HL.out.below (by repeat' (first | (with_reducible exact Below.refl _ _) | (with_reducible assumption) | (with_reducible refine Below.alloc ?_ ?_ _) | (with_reducible refine Below.drew ?_) | (with_reducible refine below_drewN ?_ _) | (with_reducible refine Below.setCell ?_ ?_ _) | (with_reducible refine below_up ?_ (by assumption)) | go_size))) (HO.out.below (by repeat' (first | (with_reducible exact Below.refl _ _) | (with_reducible assumption) | (with_reducible refine Below.alloc ?_ ?_ _) | (with_reducible refine Below.drew ?_) | (with_reducible refine below_drewN ?_ _) | (with_reducible refine Below.setCell ?_ ?_ _) | (with_reducible refine below_up ?_ (by assumption)) | go_size)))).mono ?_; rintro e w' ⟨rfl, hb⟩; obtain ⟨hc, hf⟩ := bcell hb; have hz := (hb).size; (try simp at hz); have hz2 : w.heap.size < (w').heap.size := (by omega); (try have hq1 : w.heap.size + 1 < (w').heap.size := (by omega)); (try have hq2 : w.heap.size + 1 + 1 < (w').heap.size := (by omega)); (try have hq3 : w.heap.size + 1 + 1 + 1 < (w').heap.size := (by omega)); have hp : w2.heap.size < w'.heap.size := (by omega); have hcw0 := fun o => hc (w.heap.size) o (by first | assumption | omega | (simp; done) | (simp; omega)); have hcw1 := fun o => hc (w2.heap.size) o (by first | assumption | omega | (simp; done) | (simp; omega)))
      | (go_at_call 27; refine (HF.out _ (HT.out.below (by repeat' (first | (with_reducible exact Below.refl _ _) | (with_reducible assumption) | (with_reducible refine Below.alloc ?_ ?_ _) | (with_reducible refine Below.drew ?_) | (with_reducible refine below_drewN ?_ _) | (with_reducible refine Below.setCell ?_ ?_ _) | (with_reducible refine below_up ?_ (by assumption)) | go_size)))).mono ?_; rintro e w' ⟨rfl, hb⟩; obtain ⟨hc, hf⟩ := bcell hb; have hz := (hb).size; (try simp at hz); have hz2 : w.heap.size < (w').heap.size := (by omega); (try have hq1 : w.heap.size + 1 < (w').heap.size := (by omega)); (try have hq2 : w.heap.size + 1 + 1 < (w').heap.size := (by omega)); (try have hq3 : w.heap.size + 1 + 1 + 1 < (w').heap.size := (by omega)); have hp : w2.heap.size < w'.heap.size := (by omega); have hcw0 := fun o => hc (w.heap.size) o (by first | assumption | omega | (simp; done) | (simp; omega)); have hcw1 := fun o => hc (w2.heap.size) o (by first | assumption | omega | (simp; done) | (simp; omega)))
      | (go_at_call 28; refine (sameR_same t G' S' gc' sc' G S gc sc _ (HO.out.below (by repeat' (first | (with_reducible exact Below.refl _ _) | (with_reducible assumption) | (with_reducible refine Below.alloc ?_ ?_ _) | (with_reducible refine Below.drew ?_) | (with_reducible refine below_drewN ?_ _) | (with_reducible refine Below.setCell ?_ ?_ _) | (with_reducible refine below_up ?_ (by assumption)) | go_size))) (HT.out.below (by repeat' (first | (with_reducible exact Below.refl _ _) | (with_reducible assumption) | (with_reducible refine Below.alloc ?_ ?_ _) | (with_reducible refine Below.drew ?_) | (with_reducible refine below_drewN ?_ _) | (with_reducible refine Below.setCell ?_ ?_ _) | (with_reducible refine below_up ?_ (by assumption)) | go_size)))).mono ?_; rintro e w' ⟨rfl, hb⟩; obtain ⟨hc, hf⟩ := bcell hb; have hz := (hb).size; (try simp at hz); have hz2 : w.heap.size < (w').heap.size := (by omega); (try have hq1 : w.heap.size + 1 < (w').heap.size := (by omega)); (try have hq2 : w.heap.size + 1 + 1 < (w').heap.size := (by omega)); (try have hq3 : w.heap.size + 1 + 1 + 1 < (w').heap.size := (by omega)); have hp : w2.heap.size < w'.heap.size := (by omega); have hcw0 := fun o => hc (w.heap.size) o (by first | assumption | omega | (simp; done) | (simp; omega)); have hcw1 := fun o => hc (w2.heap.size) o (by first | assumption | omega | (simp; done) | (simp; omega))))
    all_goals go_wp2_with fail
    all_goals go_ret
    all_goals exact ⟨rfl, (by repeat' (first | (with_reducible exact Below.refl _ _) | (with_reducible assumption) | (with_reducible refine Below.alloc ?_ ?_ _) | (with_reducible refine Below.drew ?_) | (with_reducible refine below_drewN ?_ _) | (with_reducible refine Below.setCell ?_ ?_ _) | (with_reducible refine below_up ?_ (by assumption)) | go_size))⟩
  · have HG := Lib.hid hgr
    clear hL hT hgr
    go_enter Tryd.func3, Tryd.ntmps3
    go_wp2_with (go_at_call 20; refine (greatR_any t G S gc sc _).mono ?_; rw [HG.out]; rintro e w1 ⟨rfl, hb1⟩)
    go_ret
    exact ⟨rfl, (by repeat' (first | (with_reducible exact Below.refl _ _) | (with_reducible assumption) | (with_reducible refine Below.alloc ?_ ?_ _) | (with_reducible refine Below.drew ?_) | (with_reducible refine below_drewN ?_ _) | (with_reducible refine Below.setCell ?_ ?_ _) | (with_reducible refine below_up ?_ (by assumption)) | go_size))⟩
end Go.Proofs.YtppejcmjjjfamaaDoor
