/- terms.Allows. -/
import Derived.Test.YtppejcmjjjfamaaDoorKnown
import Derived.Test.YtppejcmjjjfamaaDoorRefTells
namespace Go.Proofs.YtppejcmjjjfamaaDoor
open Go.RowKit

set_option maxHeartbeats 4000000 in
theorem allowsT_raw (t : TT) (G S : Option Addr) (gc sc : Nat) (g s m : Int) (w : World) (hL : Laid w) (hT : TermsA w G S t) :
    Calls Tryd.prog 22 #[.agg #[.int .i64 t.bg, .int .i64 t.bs, .int .i64 t.price, .int .i64 t.worst, .int .i64 t.short, .slice G t.grades.length gc, .slice S t.staples.length sc, .int .i64 t.dlo, .int .i64 t.dhi, .int .i64 t.bales, .int .i64 t.fee], .agg #[.int .i64 g, .int .i64 s], .int .i64 m] w fun e w' => e = .returned (.tuple #[.bool ((knownP t g g s s m).1 == 2), .int .i64 (knownP t g g s s m).2]) ∧ Below w.heap.size w w' := by
  have HK := Lib.hid (fun W (hW : Below w.heap.size w W) => knownT_any t G S gc sc g g s s m W (hL.below hW) (hT.below hW))
  clear hL hT
  generalize (knownP t g g s s m).1 = x at *
  generalize (knownP t g g s s m).2 = y at *
  go_enter Tryd.func22, Tryd.ntmps22
  go_wp2_with fail
  go_region_held3 (fun w' => w'.cell? ⟨w.heap.size, 0, none⟩ = some (.int .i64 t.bg) ∧ w'.cell? ⟨w.heap.size, 1, none⟩ = some (.int .i64 t.bs) ∧ w'.cell? ⟨w.heap.size, 2, none⟩ = some (.int .i64 t.price) ∧ w'.cell? ⟨w.heap.size, 3, none⟩ = some (.int .i64 t.worst) ∧ w'.cell? ⟨w.heap.size, 4, none⟩ = some (.int .i64 t.short) ∧ w'.cell? ⟨w.heap.size, 5, none⟩ = some (.slice G t.grades.length gc) ∧ w'.cell? ⟨w.heap.size, 6, none⟩ = some (.slice S t.staples.length sc) ∧ w'.cell? ⟨w.heap.size, 7, none⟩ = some (.int .i64 t.dlo) ∧ w'.cell? ⟨w.heap.size, 8, none⟩ = some (.int .i64 t.dhi) ∧ w'.cell? ⟨w.heap.size, 9, none⟩ = some (.int .i64 t.bales) ∧ w'.cell? ⟨w.heap.size, 10, none⟩ = some (.int .i64 t.fee) ∧ w'.cell? ⟨w.heap.size + 1, 0, none⟩ = some (.int .i64 g) ∧ w'.cell? ⟨w.heap.size + 1, 1, none⟩ = some (.int .i64 s)) (first | (simp [*, go_sem]; done) | (simp [*, go_sem]; omega)) (first
      | (go_at_call 74; refine (oneT_any _ _).mono ?_; rintro e w' ⟨rfl, hb⟩; obtain ⟨hc, hf⟩ := bcell hb; have hz := (hb).size; (try simp at hz); have hz2 : w.heap.size < (w').heap.size := (by omega); (try have hq1 : w.heap.size + 1 < (w').heap.size := (by omega)); (try have hq2 : w.heap.size + 1 + 1 < (w').heap.size := (by omega)); (try have hq3 : w.heap.size + 1 + 1 + 1 < (w').heap.size := (by omega)); have hcw0 := fun o => hc (w.heap.size) o (by first | assumption | omega | (simp; done) | (simp; omega)); have hcw1 := fun o => hc (w.heap.size + 1) o (by first | assumption | omega | (simp; done) | (simp; omega)))
      | (go_at_call 37; refine (HK.out _ (by repeat' (first | (with_reducible exact Below.refl _ _) | (with_reducible assumption) | (with_reducible refine Below.alloc ?_ ?_ _) | (with_reducible refine Below.drew ?_) | (with_reducible refine below_drewN ?_ _) | (with_reducible refine Below.setCell ?_ ?_ _) | (with_reducible refine below_up ?_ (by assumption)) | go_size))).mono ?_; rintro e w' ⟨rfl, hb⟩; obtain ⟨hc, hf⟩ := bcell hb; have hz := (hb).size; (try simp at hz); have hz2 : w.heap.size < (w').heap.size := (by omega); (try have hq1 : w.heap.size + 1 < (w').heap.size := (by omega)); (try have hq2 : w.heap.size + 1 + 1 < (w').heap.size := (by omega)); (try have hq3 : w.heap.size + 1 + 1 + 1 < (w').heap.size := (by omega)); have hcw0 := fun o => hc (w.heap.size) o (by first | assumption | omega | (simp; done) | (simp; omega)); have hcw1 := fun o => hc (w.heap.size + 1) o (by first | assumption | omega | (simp; done) | (simp; omega))))
  all_goals go_wp2_with fail
  all_goals go_ret2
  all_goals exact ⟨rfl, (by repeat' (first | (with_reducible exact Below.refl _ _) | (with_reducible assumption) | (with_reducible refine Below.alloc ?_ ?_ _) | (with_reducible refine Below.drew ?_) | (with_reducible refine below_drewN ?_ _) | (with_reducible refine Below.setCell ?_ ?_ _) | (with_reducible refine below_up ?_ (by assumption)) | go_size))⟩
end Go.Proofs.YtppejcmjjjfamaaDoor
