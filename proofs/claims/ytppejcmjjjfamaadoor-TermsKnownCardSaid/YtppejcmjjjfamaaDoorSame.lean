/- middlingref04.Same, of terms that are the same. -/
import Derived.Test.YtppejcmjjjfamaaDoorRef
import Derived.Deep.RegionWith
namespace Go.Proofs.YtppejcmjjjfamaaDoor
open Go.RowKit

theorem sameB_self (xs : List Int) : sameB xs xs = true := by simp [sameB]
set_option maxRecDepth 100000 in
set_option maxHeartbeats 2000000 in
theorem sameR_same (t : TT) (G S : Option Addr) (gc sc : Nat) (G' S' : Option Addr) (gc' sc' : Nat) (w : World) (hT : TermsA w G S t) (hT' : TermsA w G' S' t) :
    Calls Tryd.prog 28 #[.agg #[.int .i64 t.bg, .int .i64 t.bs, .int .i64 t.price, .int .i64 t.worst, .int .i64 t.short, .slice G t.grades.length gc, .slice S t.staples.length sc, .int .i64 t.dlo, .int .i64 t.dhi, .int .i64 t.bales, .int .i64 t.fee], .agg #[.int .i64 t.bg, .int .i64 t.bs, .int .i64 t.price, .int .i64 t.worst, .int .i64 t.short, .slice G' t.grades.length gc', .slice S' t.staples.length sc', .int .i64 t.dlo, .int .i64 t.dhi, .int .i64 t.bales, .int .i64 t.fee]] w fun e w' => e = .returned (.bool true) ∧ Below w.heap.size w w' := by
  have H1 := Lib.hid (fun W (hW : Below w.heap.size w W) => sameIntsR_any t.grades t.grades G G' gc gc' W ((hT.below hW).1) ((hT'.below hW).1) hT.2.2.1 hT.2.2.1)
  have H2 := Lib.hid (fun W (hW : Below w.heap.size w W) => sameIntsR_any t.staples t.staples S S' sc sc' W ((hT.below hW).2.1) ((hT'.below hW).2.1) hT.2.2.2 hT.2.2.2)
  clear hT hT'
  go_enter Tryd.func28, Tryd.ntmps28
  go_wp2_with (first
    | (go_at_call_of 31 (Value.slice G t.grades.length gc); refine (H1.out _ (by repeat' (first | (with_reducible exact Below.refl _ _) | (with_reducible assumption) | (with_reducible refine Below.alloc ?_ ?_ _) | (with_reducible refine Below.drew ?_) | (with_reducible refine below_drewN ?_ _) | (with_reducible refine Below.setCell ?_ ?_ _) | (with_reducible refine below_up ?_ (by assumption)) | go_size))).mono ?_; rw [sameB_self]; rintro e w' ⟨rfl, hb⟩; obtain ⟨hc, hf⟩ := bcell hb; have hz := (hb).size; (try simp at hz); have hz2 : w.heap.size < (w').heap.size := (by omega); (try have hq1 : w.heap.size + 1 < (w').heap.size := (by omega)); (try have hq2 : w.heap.size + 1 + 1 < (w').heap.size := (by omega)); (try have hq3 : w.heap.size + 1 + 1 + 1 < (w').heap.size := (by omega)))
    | (go_at_call_of 31 (Value.slice S t.staples.length sc); refine (H2.out _ (by repeat' (first | (with_reducible exact Below.refl _ _) | (with_reducible assumption) | (with_reducible refine Below.alloc ?_ ?_ _) | (with_reducible refine Below.drew ?_) | (with_reducible refine below_drewN ?_ _) | (with_reducible refine Below.setCell ?_ ?_ _) | (with_reducible refine below_up ?_ (by assumption)) | go_size))).mono ?_; rw [sameB_self]; rintro e w' ⟨rfl, hb⟩; obtain ⟨hc, hf⟩ := bcell hb; have hz := (hb).size; (try simp at hz); have hz2 : w.heap.size < (w').heap.size := (by omega); (try have hq1 : w.heap.size + 1 < (w').heap.size := (by omega)); (try have hq2 : w.heap.size + 1 + 1 < (w').heap.size := (by omega)); (try have hq3 : w.heap.size + 1 + 1 + 1 < (w').heap.size := (by omega))))
  go_ret
  exact ⟨rfl, (by repeat' (first | (with_reducible exact Below.refl _ _) | (with_reducible assumption) | (with_reducible refine Below.alloc ?_ ?_ _) | (with_reducible refine Below.drew ?_) | (with_reducible refine below_drewN ?_ _) | (with_reducible refine Below.setCell ?_ ?_ _) | (with_reducible refine below_up ?_ (by assumption)) | go_size))⟩
end Go.Proofs.YtppejcmjjjfamaaDoor
