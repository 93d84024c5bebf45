/- middlingref04.Twin: terms in new memory. -/
import Derived.Test.YtppejcmjjjfamaaDoorChecked
import Derived.Test.YtppejcmjjjfamaaDoorPlain
import Derived.Test.YtppejcmjjjfamaaDoorAppend
import Derived.Deep.RegionLaw
import Derived.Deep.DeepCutAuto
import Derived.Handy
namespace Go.Proofs.YtppejcmjjjfamaaDoor
open Go.RowKit

/-- what Twin leaves: the same terms, their tables in blocks of its own -/
def TwinPost (t : TT) (w : World) (e : Ending) (w' : World) : Prop :=
  ∃ (G S : Option Addr) (gc sc : Nat), e = .returned (.agg #[.int .i64 t.bg, .int .i64 t.bs, .int .i64 t.price, .int .i64 t.worst, .int .i64 t.short, .slice G t.grades.length gc, .slice S t.staples.length sc, .int .i64 t.dlo, .int .i64 t.dhi, .int .i64 t.bales, .int .i64 t.fee]) ∧ OwnInts w' w.heap.size 3 G t.grades ∧ OwnInts w' w.heap.size 3 S t.staples ∧ Below w.heap.size w w'
theorem int_info : (Tryd.prog.info? 3).map (fun i => (i.zero, i.size, i.bytes)) = some (some (.int .i64 0), 1, 8) := by kernel_rfl

set_option maxHeartbeats 8000000 in
theorem twinR_any (t : TT) (G S : Option Addr) (gc sc : Nat) (w : World) (hT : TermsA w G S t) (hg : t.grades.length ≤ 1000) (hs : t.staples.length ≤ 1000) :
    Calls Tryd.prog 21 #[.agg #[.int .i64 t.bg, .int .i64 t.bs, .int .i64 t.price, .int .i64 t.worst, .int .i64 t.short, .slice G t.grades.length gc, .slice S t.staples.length sc, .int .i64 t.dlo, .int .i64 t.dhi, .int .i64 t.bales, .int .i64 t.fee]] w (TwinPost t w) := by
  obtain ⟨i0, ia, ib, ic, id⟩ := info_parts int_info
  have HT := Lib.hid hT
  clear hT
  go_enter Tryd.func21, Tryd.ntmps21
  go_upto_region 1 with fail
  go_cut [2] (fun s2 wx => ∃ (G' S' : Option Addr) (gc' sc' : Nat), s2 = .pointer (some ⟨w.heap.size + 1, 0, none⟩) ∧ OwnInts wx (w.heap.size + 2) 3 G' t.grades ∧ OwnInts wx (w.heap.size + 2) 3 S' t.staples ∧
    w.heap.size + 1 < wx.heap.size ∧ (∀ o, wx.frozen? ⟨w.heap.size + 1, o, none⟩ = false) ∧ (wx.cell? ⟨w.heap.size + 1, 0, none⟩ = some (.int .i64 0) ∧ wx.cell? ⟨w.heap.size + 1, 1, none⟩ = some (.int .i64 0) ∧ wx.cell? ⟨w.heap.size + 1, 2, none⟩ = some (.int .i64 0) ∧ wx.cell? ⟨w.heap.size + 1, 3, none⟩ = some (.int .i64 0) ∧ wx.cell? ⟨w.heap.size + 1, 4, none⟩ = some (.int .i64 0) ∧ wx.cell? ⟨w.heap.size + 1, 5, none⟩ = some (.slice none 0 0) ∧ wx.cell? ⟨w.heap.size + 1, 6, none⟩ = some (.slice none 0 0) ∧ wx.cell? ⟨w.heap.size + 1, 7, none⟩ = some (.int .i64 0) ∧ wx.cell? ⟨w.heap.size + 1, 8, none⟩ = some (.int .i64 0) ∧ wx.cell? ⟨w.heap.size + 1, 9, none⟩ = some (.int .i64 0) ∧ wx.cell? ⟨w.heap.size + 1, 10, none⟩ = some (.int .i64 0)) ∧ wx.cell? ⟨w.heap.size, 0, none⟩ = some (.int .i64 t.bg) ∧ wx.cell? ⟨w.heap.size, 1, none⟩ = some (.int .i64 t.bs) ∧ wx.cell? ⟨w.heap.size, 2, none⟩ = some (.int .i64 t.price) ∧ wx.cell? ⟨w.heap.size, 3, none⟩ = some (.int .i64 t.worst) ∧ wx.cell? ⟨w.heap.size, 4, none⟩ = some (.int .i64 t.short) ∧ wx.cell? ⟨w.heap.size, 5, none⟩ = some (.slice G' t.grades.length gc') ∧ wx.cell? ⟨w.heap.size, 6, none⟩ = some (.slice S' t.staples.length sc') ∧ wx.cell? ⟨w.heap.size, 7, none⟩ = some (.int .i64 t.dlo) ∧ wx.cell? ⟨w.heap.size, 8, none⟩ = some (.int .i64 t.dhi) ∧ wx.cell? ⟨w.heap.size, 9, none⟩ = some (.int .i64 t.bales) ∧ wx.cell? ⟨w.heap.size, 10, none⟩ = some (.int .i64 t.fee) ∧ Below w.heap.size w wx)
  case first =>
    go_region_law (first
      | (refine step_append_ints _ rfl (.tmp 3) (.tmp 5) _ rfl 3 i0 _ Tryd.underlying24 ia ib ic id (w.heap.size + 2) _ (by first | omega | (simp; done) | (simp; omega)) t.grades G gc rfl rfl (HT.out.1.below (by repeat' (first | (with_reducible exact Below.refl _ _) | (with_reducible assumption) | (with_reducible refine Below.alloc ?_ ?_ _) | (with_reducible refine Below.drew ?_) | (with_reducible refine below_drewN ?_ _) | (with_reducible refine Below.setCell ?_ ?_ _) | (with_reducible refine below_up ?_ (by assumption)) | go_size))) (by omega) ?_; intro A1 c1 w1 hO1 hb1; obtain ⟨hc, hf⟩ := bcell hb1; have hz := (hb1).size; (try simp at hz); have hz2 : w.heap.size < (w1).heap.size := (by omega); have hz3 : w.heap.size + 1 < w1.heap.size := (by omega); have hcw0 := fun o => hc (w.heap.size) o (by first | assumption | omega | (simp; done) | (simp; omega)); have hcv0 := fun o => hc (w.heap.size + 1) o (by first | assumption | omega | (simp; done) | (simp; omega)))
      | (refine step_append_ints _ rfl (.tmp 7) (.tmp 9) _ rfl 3 i0 _ Tryd.underlying24 ia ib ic id (w.heap.size + 2) _ (by first | omega | (simp; done) | (simp; omega)) t.staples S sc rfl rfl (HT.out.2.1.below (by repeat' (first | (with_reducible exact Below.refl _ _) | (with_reducible assumption) | (with_reducible refine Below.alloc ?_ ?_ _) | (with_reducible refine Below.drew ?_) | (with_reducible refine below_drewN ?_ _) | (with_reducible refine Below.setCell ?_ ?_ _) | (with_reducible refine below_up ?_ (by assumption)) | go_size))) (by omega) ?_; intro A2 c2 w2 hO2 hb2; obtain ⟨hc, hf⟩ := bcell hb2; have hz := (hb2).size; (try simp at hz); have hz2 : w.heap.size < (w2).heap.size := (by omega); have hz4 : w.heap.size + 1 < w2.heap.size := (by omega); have hcw1 := fun o => hc (w.heap.size) o (by first | assumption | omega | (simp; done) | (simp; omega)); have hcv1 := fun o => hc (w.heap.size + 1) o (by first | assumption | omega | (simp; done) | (simp; omega))))
    all_goals go_wp2_with fail
    all_goals go_meet
    all_goals refine ⟨A1, A2, c1, c2, rfl, OwnInts.setCell (OwnInts.setCell (hO1.below (by repeat' (first | (with_reducible exact Below.refl _ _) | (with_reducible assumption) | (with_reducible refine Below.alloc ?_ ?_ _) | (with_reducible refine Below.drew ?_) | (with_reducible refine below_drewN ?_ _) | (with_reducible refine Below.setCell ?_ ?_ _) | (with_reducible refine below_up ?_ (by assumption)) | go_size))) (by simp) _) (by simp) _, OwnInts.setCell (OwnInts.setCell (hO2.below (by repeat' (first | (with_reducible exact Below.refl _ _) | (with_reducible assumption) | (with_reducible refine Below.alloc ?_ ?_ _) | (with_reducible refine Below.drew ?_) | (with_reducible refine below_drewN ?_ _) | (with_reducible refine Below.setCell ?_ ?_ _) | (with_reducible refine below_up ?_ (by assumption)) | go_size))) (by simp) _) (by simp) _, ?_, ?_, ⟨?_, ?_, ?_, ?_, ?_, ?_, ?_, ?_, ?_, ?_, ?_⟩, ?_, ?_, ?_, ?_, ?_, ?_, ?_, ?_, ?_, ?_, ?_, (by repeat' (first | (with_reducible exact Below.refl _ _) | (with_reducible assumption) | (with_reducible refine Below.alloc ?_ ?_ _) | (with_reducible refine Below.drew ?_) | (with_reducible refine below_drewN ?_ _) | (with_reducible refine Below.setCell ?_ ?_ _) | (with_reducible refine below_up ?_ (by assumption)) | go_size))⟩
    all_goals first | (simp [*, go_sem]; done) | (simp [*, go_sem]; omega) | (intro o; simp [*, go_sem]; done) | (rw [World.cell?_setCell_same' _ _ _ (by simp [*, go_sem])]) | (rw [World.cell?_setCell_other _ _ _ _ (by simp)]; rw [World.cell?_setCell_same' _ _ _ (by simp [*, go_sem])])
  case rest =>
    obtain ⟨G', S', gc', sc', rfl, hG, hS, hlt, hfz, ⟨z0, z1, z2, z3, z4, z5, z6, z7, z8, z9, z10⟩, c0, c1, c2, c3, c4, c5, c6, c7, c8, c9, c10, hbW⟩ := hcut
    go_wp2
    refine bodyPost_ret (v := .agg #[.int .i64 t.bg, .int .i64 t.bs, .int .i64 t.price, .int .i64 t.worst, .int .i64 t.short, .slice G' t.grades.length gc', .slice S' t.staples.length sc', .int .i64 t.dlo, .int .i64 t.dhi, .int .i64 t.bales, .int .i64 t.fee]) (by simp [results, Tryd.results21, go_sem, z0, z1, z2, z3, z4, z5, z6, z7, z8, z9, z10]) rfl ?_
    refine ⟨G', S', gc', sc', rfl, ?_, ?_, (by repeat' (first | (with_reducible exact Below.refl _ _) | (with_reducible assumption) | (with_reducible refine Below.alloc ?_ ?_ _) | (with_reducible refine Below.drew ?_) | (with_reducible refine below_drewN ?_ _) | (with_reducible refine Below.setCell ?_ ?_ _) | (with_reducible refine below_up ?_ (by assumption)) | go_size))⟩
    · refine OwnInts.weaken (base := w.heap.size + 2) ?_ (by omega)
      repeat' refine OwnInts.setCell ?_ (by simp) _
      exact hG
    · refine OwnInts.weaken (base := w.heap.size + 2) ?_ (by omega)
      repeat' refine OwnInts.setCell ?_ (by simp) _
      exact hS
end Go.Proofs.YtppejcmjjjfamaaDoor
