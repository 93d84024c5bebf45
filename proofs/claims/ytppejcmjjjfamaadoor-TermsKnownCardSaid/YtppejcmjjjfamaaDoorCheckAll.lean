/- terms.Check: all five checks. -/
import Derived.Test.YtppejcmjjjfamaaDoorCheck
import Derived.Laws.EntriesVeiled
namespace Go.Proofs.YtppejcmjjjfamaaDoor
open Go.RowKit

/-- the package-level table of checks holds its five functions -/
def Laid (w : World) : Prop := 0 < w.heap.size ∧ w.cell? ⟨0, 0, none⟩ = some (.func (.func 152) #[] #[]) ∧ w.cell? ⟨0, 1, none⟩ = some (.func (.func 153) #[] #[]) ∧
  w.cell? ⟨0, 2, none⟩ = some (.func (.func 154) #[] #[]) ∧ w.cell? ⟨0, 3, none⟩ = some (.func (.func 155) #[] #[]) ∧ w.cell? ⟨0, 4, none⟩ = some (.func (.func 156) #[] #[])
theorem Laid.below {w w' : World} (h : Laid w) (hb : Below w.heap.size w w') : Laid w' := by
  obtain ⟨h0, h1, h2, h3, h4, h5⟩ := h
  exact ⟨Nat.lt_of_lt_of_le h0 hb.size, (hb.cell (p := ⟨0, 0, none⟩) h0).trans h1, (hb.cell (p := ⟨0, 1, none⟩) h0).trans h2, (hb.cell (p := ⟨0, 2, none⟩) h0).trans h3,
    (hb.cell (p := ⟨0, 3, none⟩) h0).trans h4, (hb.cell (p := ⟨0, 4, none⟩) h0).trans h5⟩
/-- the error of terms -/
def errT (b : Bool) : Int := if b then 0 else 40

set_option maxHeartbeats 1000000 in
theorem checkT_any (t : TT) (G S : Option Addr) (gc sc : Nat) (w : World) (hL : Laid w) (hT : TermsA w G S t) :
    Calls Tryd.prog 26 #[.agg #[.int .i64 t.bg, .int .i64 t.bs, .int .i64 t.price, .int .i64 t.worst, .int .i64 t.short, .slice G t.grades.length gc, .slice S t.staples.length sc, .int .i64 t.dlo, .int .i64 t.dhi, .int .i64 t.bales, .int .i64 t.fee]] w fun e w' => e = .returned (.int .i64 (errT (okT t))) ∧ Below w.heap.size w w' := by
  obtain ⟨h0, l0, l1, l2, l3, l4⟩ := hL
  have HT := Lib.hid hT
  clear hT
  have i0 : ∀ w, (Instr.index 140 (.agg #[.func (.func 152) #[] #[], .func (.func 153) #[] #[], .func (.func 154) #[] #[], .func (.func 155) #[] #[], .func (.func 156) #[] #[]]) (.int .i64 0)).run Tryd.prog w = .ok (.agg #[.func (.func 152) #[] #[]]) w := fun _ => by kernel_rfl
  have i1 : ∀ w, (Instr.index 140 (.agg #[.func (.func 152) #[] #[], .func (.func 153) #[] #[], .func (.func 154) #[] #[], .func (.func 155) #[] #[], .func (.func 156) #[] #[]]) (.int .i64 1)).run Tryd.prog w = .ok (.agg #[.func (.func 153) #[] #[]]) w := fun _ => by kernel_rfl
  have i2 : ∀ w, (Instr.index 140 (.agg #[.func (.func 152) #[] #[], .func (.func 153) #[] #[], .func (.func 154) #[] #[], .func (.func 155) #[] #[], .func (.func 156) #[] #[]]) (.int .i64 2)).run Tryd.prog w = .ok (.agg #[.func (.func 154) #[] #[]]) w := fun _ => by kernel_rfl
  have i3 : ∀ w, (Instr.index 140 (.agg #[.func (.func 152) #[] #[], .func (.func 153) #[] #[], .func (.func 154) #[] #[], .func (.func 155) #[] #[], .func (.func 156) #[] #[]]) (.int .i64 3)).run Tryd.prog w = .ok (.agg #[.func (.func 155) #[] #[]]) w := fun _ => by kernel_rfl
  have i4 : ∀ w, (Instr.index 140 (.agg #[.func (.func 152) #[] #[], .func (.func 153) #[] #[], .func (.func 154) #[] #[], .func (.func 155) #[] #[], .func (.func 156) #[] #[]]) (.int .i64 4)).run Tryd.prog w = .ok (.agg #[.func (.func 156) #[] #[]]) w := fun _ => by kernel_rfl
  go_enter Tryd.func26, Tryd.ntmps26
  go_wp2
  refine wp_loop_rounds 6 ?_
  rw [rounds_succ]
  go_wp2_with fail
  refine (ck1_any t G S gc sc _).mono ?_
  rintro e w1 ⟨rfl, hb1⟩
  obtain ⟨hc, hf⟩ := bcell hb1; have hz := (hb1).size; (try simp at hz); have hz2 : w.heap.size < (w1).heap.size := (by omega)
  cases h1 : ck1B t
  · go_wp2_with fail
    go_ret
    exact ⟨ret_int (by simp [errT, okT, *]), (by repeat' (first | (with_reducible exact Below.refl _ _) | (with_reducible assumption) | (with_reducible refine Below.alloc ?_ ?_ _) | (with_reducible refine Below.drew ?_) | (with_reducible refine below_drewN ?_ _) | (with_reducible refine Below.setCell ?_ ?_ _) | (with_reducible refine below_up ?_ (by assumption)) | go_size))⟩
  go_wp2_with fail
  rw [rounds_succ]
  go_wp2_with fail
  refine (ck2_any t G S gc sc _ (HT.out.below (by repeat' (first | (with_reducible exact Below.refl _ _) | (with_reducible assumption) | (with_reducible refine Below.alloc ?_ ?_ _) | (with_reducible refine Below.drew ?_) | (with_reducible refine below_drewN ?_ _) | (with_reducible refine Below.setCell ?_ ?_ _) | (with_reducible refine below_up ?_ (by assumption)) | go_size)))).mono ?_
  rintro e w2 ⟨rfl, hb2⟩
  obtain ⟨hc, hf⟩ := bcell hb2; have hz := (hb2).size; (try simp at hz); have hz2 : w.heap.size < (w2).heap.size := (by omega)
  cases h2 : ck2B t
  · go_wp2_with fail
    go_ret
    exact ⟨ret_int (by simp [errT, okT, *]), (by repeat' (first | (with_reducible exact Below.refl _ _) | (with_reducible assumption) | (with_reducible refine Below.alloc ?_ ?_ _) | (with_reducible refine Below.drew ?_) | (with_reducible refine below_drewN ?_ _) | (with_reducible refine Below.setCell ?_ ?_ _) | (with_reducible refine below_up ?_ (by assumption)) | go_size))⟩
  go_wp2_with fail
  rw [rounds_succ]
  go_wp2_with fail
  obtain ⟨hb, hs⟩ : (1 ≤ t.bg ∧ t.bg ≤ 9) ∧ (1 ≤ t.bs ∧ t.bs ≤ 9) := by simp [ck1B, inB_true] at h1; exact h1.1
  refine (ck3_any t G S gc sc _ (HT.out.below (by repeat' (first | (with_reducible exact Below.refl _ _) | (with_reducible assumption) | (with_reducible refine Below.alloc ?_ ?_ _) | (with_reducible refine Below.drew ?_) | (with_reducible refine below_drewN ?_ _) | (with_reducible refine Below.setCell ?_ ?_ _) | (with_reducible refine below_up ?_ (by assumption)) | go_size))) (tabs_of h1 h2) hb hs).mono ?_
  rintro e w3 ⟨rfl, hb3⟩
  obtain ⟨hc, hf⟩ := bcell hb3; have hz := (hb3).size; (try simp at hz); have hz2 : w.heap.size < (w3).heap.size := (by omega)
  cases h3 : ck3B t
  · go_wp2_with fail
    go_ret
    exact ⟨ret_int (by simp [errT, okT, *]), (by repeat' (first | (with_reducible exact Below.refl _ _) | (with_reducible assumption) | (with_reducible refine Below.alloc ?_ ?_ _) | (with_reducible refine Below.drew ?_) | (with_reducible refine below_drewN ?_ _) | (with_reducible refine Below.setCell ?_ ?_ _) | (with_reducible refine below_up ?_ (by assumption)) | go_size))⟩
  go_wp2_with fail
  rw [rounds_succ]
  go_wp2_with fail
  refine (ck4_any t G S gc sc _).mono ?_
  rintro e w4 ⟨rfl, hb4⟩
  obtain ⟨hc, hf⟩ := bcell hb4; have hz := (hb4).size; (try simp at hz); have hz2 : w.heap.size < (w4).heap.size := (by omega)
  cases h4 : ck4B t
  · go_wp2_with fail
    go_ret
    exact ⟨ret_int (by simp [errT, okT, *]), (by repeat' (first | (with_reducible exact Below.refl _ _) | (with_reducible assumption) | (with_reducible refine Below.alloc ?_ ?_ _) | (with_reducible refine Below.drew ?_) | (with_reducible refine below_drewN ?_ _) | (with_reducible refine Below.setCell ?_ ?_ _) | (with_reducible refine below_up ?_ (by assumption)) | go_size))⟩
  go_wp2_with fail
  rw [rounds_succ]
  go_wp2_with fail
  obtain ⟨hw, hk⟩ : (1 ≤ t.worst ∧ t.worst ≤ 9) ∧ (1 ≤ t.short ∧ t.short ≤ 9) := by simp [ck3B, inB_true] at h3; omega
  refine (ck5_any t G S gc sc _ (HT.out.below (by repeat' (first | (with_reducible exact Below.refl _ _) | (with_reducible assumption) | (with_reducible refine Below.alloc ?_ ?_ _) | (with_reducible refine Below.drew ?_) | (with_reducible refine below_drewN ?_ _) | (with_reducible refine Below.setCell ?_ ?_ _) | (with_reducible refine below_up ?_ (by assumption)) | go_size))) (tabs_of h1 h2) hw hk).mono ?_
  rintro e w5 ⟨rfl, hb5⟩
  obtain ⟨hc, hf⟩ := bcell hb5; have hz := (hb5).size; (try simp at hz); have hz2 : w.heap.size < (w5).heap.size := (by omega)
  cases h5 : ck5B t
  · go_wp2_with fail
    go_ret
    exact ⟨ret_int (by simp [errT, okT, *]), (by repeat' (first | (with_reducible exact Below.refl _ _) | (with_reducible assumption) | (with_reducible refine Below.alloc ?_ ?_ _) | (with_reducible refine Below.drew ?_) | (with_reducible refine below_drewN ?_ _) | (with_reducible refine Below.setCell ?_ ?_ _) | (with_reducible refine below_up ?_ (by assumption)) | go_size))⟩
  go_wp2_with fail
  rw [rounds_succ]
  go_wp2_with fail
  go_ret
  exact ⟨ret_int (by simp [errT, okT, *]), (by repeat' (first | (with_reducible exact Below.refl _ _) | (with_reducible assumption) | (with_reducible refine Below.alloc ?_ ?_ _) | (with_reducible refine Below.drew ?_) | (with_reducible refine below_drewN ?_ _) | (with_reducible refine Below.setCell ?_ ?_ _) | (with_reducible refine below_up ?_ (by assumption)) | go_size))⟩
end Go.Proofs.YtppejcmjjjfamaaDoor
