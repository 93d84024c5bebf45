/- middlingref04.Range. -/
import Derived.Test.YtppejcmjjjfamaaDoorRefKnown
namespace Go.Proofs.YtppejcmjjjfamaaDoor
open Go.RowKit

theorem isSome_set (w : World) (p : Addr) (v : Value) (a : Addr) (h : (w.cell? a).isSome = true) : ((w.setCell p v).cell? a).isSome = true := by
  obtain ⟨u, hu⟩ := Option.isSome_iff_exists.1 h
  obtain ⟨v', hv⟩ := cell?_setCell_some (p := p) (x := v) hu
  rw [hv]; rfl

set_option maxRecDepth 100000 in
set_option maxHeartbeats 2000000 in
theorem rangeR_any (t : TT) (G S : Option Addr) (gc sc : Nat) (a b c d : Int) (w : World) (hT : TermsA w G S t) :
    Calls Tryd.prog 40 #[.agg #[.int .i64 t.bg, .int .i64 t.bs, .int .i64 t.price, .int .i64 t.worst, .int .i64 t.short, .slice G t.grades.length gc, .slice S t.staples.length sc, .int .i64 t.dlo, .int .i64 t.dhi, .int .i64 t.bales, .int .i64 t.fee], .agg #[.int .i64 a, .int .i64 b], .agg #[.int .i64 c, .int .i64 d]] w fun e w' => e = .returned (.tuple #[.agg #[.int .i64 (rangeP t a b c d).1, .int .i64 (rangeP t a b c d).2.1], .int .i64 (rangeP t a b c d).2.2]) ∧ Below w.heap.size w w' := by
  have HC := Lib.hid (fun W (hW : Below w.heap.size w W) => spansR_any t G S gc sc a b c d W (hT.below hW))
  have HT := Lib.hid hT
  clear hT
  by_cases h : err1 t a b c d = 0
  · have h' : (err1 t a b c d != 0) = false := by simp [h]
    obtain ⟨hok, ⟨a1, a2, a3⟩, c1, c2, c3⟩ := err1_zero h
    have Ht := Lib.hid (okT.tabs hok)
    have Hf := Lib.hid (rangeP_zero h)
    have HE := Lib.hid h
    clear h hok
    go_enter Tryd.func40, Tryd.ntmps40
    go_wp2_with (go_at_call 93; refine (HC.out _ (by repeat' (first | (with_reducible exact Below.refl _ _) | (with_reducible assumption) | (with_reducible refine Below.alloc ?_ ?_ _) | (with_reducible refine Below.drew ?_) | (with_reducible refine below_drewN ?_ _) | (with_reducible refine Below.setCell ?_ ?_ _) | (with_reducible refine below_up ?_ (by assumption)) | go_size))).mono ?_; rintro e w1 ⟨rfl, hb⟩; obtain ⟨hc, hf⟩ := bcell hb; have hz := (hb).size; (try simp at hz); have hz2 : w.heap.size < (w1).heap.size := (by omega); (try have hq1 : w.heap.size + 1 < (w1).heap.size := (by omega)); (try have hq2 : w.heap.size + 1 + 1 < (w1).heap.size := (by omega)); (try have hq3 : w.heap.size + 1 + 1 + 1 < (w1).heap.size := (by omega)))
    go_loopw [10, 11] (fun fo i wr => ∃ g : Int, i = .int .i64 g ∧ a ≤ g ∧ g ≤ b + 1 ∧ fo = .bool (extRows t (rowsL a g c (d + 1))).isSome ∧ w1.heap.size < wr.heap.size ∧ (∀ o, wr.frozen? ⟨w1.heap.size, o, none⟩ = false) ∧ (∀ o, wr.frozen? ⟨w.heap.size + 1 + 1 + 1, o, none⟩ = false) ∧ (wr.cell? ⟨w1.heap.size, 0, none⟩ = some (.int .i64 ((ext0 (extRows t (rowsL a g c (d + 1)))).1)) ∧ wr.cell? ⟨w1.heap.size, 1, none⟩ = some (.int .i64 ((ext0 (extRows t (rowsL a g c (d + 1)))).2))) ∧ (wr.cell? ⟨w.heap.size, 0, none⟩ = some (.int .i64 t.bg) ∧ wr.cell? ⟨w.heap.size, 1, none⟩ = some (.int .i64 t.bs) ∧ wr.cell? ⟨w.heap.size, 2, none⟩ = some (.int .i64 t.price) ∧ wr.cell? ⟨w.heap.size, 3, none⟩ = some (.int .i64 t.worst) ∧ wr.cell? ⟨w.heap.size, 4, none⟩ = some (.int .i64 t.short) ∧ wr.cell? ⟨w.heap.size, 5, none⟩ = some (.slice G t.grades.length gc) ∧ wr.cell? ⟨w.heap.size, 6, none⟩ = some (.slice S t.staples.length sc) ∧ wr.cell? ⟨w.heap.size, 7, none⟩ = some (.int .i64 t.dlo) ∧ wr.cell? ⟨w.heap.size, 8, none⟩ = some (.int .i64 t.dhi) ∧ wr.cell? ⟨w.heap.size, 9, none⟩ = some (.int .i64 t.bales) ∧ wr.cell? ⟨w.heap.size, 10, none⟩ = some (.int .i64 t.fee)) ∧ (wr.cell? ⟨w.heap.size + 1, 0, none⟩ = some (.int .i64 a) ∧ wr.cell? ⟨w.heap.size + 1, 1, none⟩ = some (.int .i64 b)) ∧ (wr.cell? ⟨w.heap.size + 1 + 1, 0, none⟩ = some (.int .i64 c) ∧ wr.cell? ⟨w.heap.size + 1 + 1, 1, none⟩ = some (.int .i64 d)) ∧ (wr.cell? ⟨w.heap.size + 1 + 1 + 1, 0, none⟩ = some (.int .i64 0) ∧ wr.cell? ⟨w.heap.size + 1 + 1 + 1, 1, none⟩ = some (.int .i64 0)) ∧ Below w.heap.size w wr) (fun _ i _ => (b + 1 - intOf i).toNat)
    case atStart =>
      refine ⟨a, rfl, by omega, by omega, by rw [rowsL_nil (by omega)]; rfl, ?_, ?_, ?_, ⟨?_, ?_⟩, ⟨?_, ?_, ?_, ?_, ?_, ?_, ?_, ?_, ?_, ?_, ?_⟩, ⟨?_, ?_⟩, ⟨?_, ?_⟩, ⟨?_, ?_⟩, (by repeat' (first | (with_reducible exact Below.refl _ _) | (with_reducible assumption) | (with_reducible refine Below.alloc ?_ ?_ _) | (with_reducible refine Below.drew ?_) | (with_reducible refine below_drewN ?_ _) | (with_reducible refine Below.setCell ?_ ?_ _) | (with_reducible refine below_up ?_ (by assumption)) | go_size))⟩
      all_goals first | (rw [rowsL_nil (by omega)]; simp [*, go_sem, extRows, extL, ext0]; done) | (simp [*, go_sem]; done) | (simp (disch := (first | omega | (simp only [World.size_alloc, World.size_drew, World.size_setCell]; omega) | (simp; done))) [*, go_sem]; done) | (intro o; simp [*, go_sem]; done) | (intro o; simp (disch := (first | omega | (simp only [World.size_alloc, World.size_drew, World.size_setCell]; omega) | (simp; done))) [*, go_sem]; done)
    case round =>
      obtain ⟨g, rfl, hag, hgb, rfl, hsz, hf1, hf2, ⟨x0, x1⟩, ⟨k0, k1, k2, k3, k4, k5, k6, k7, k8, k9, k10⟩, ⟨d0, d1⟩, ⟨e0, e1⟩, ⟨y0, y1⟩, hbr⟩ := hrel
      have hz0 : w.heap.size < wr.heap.size := by omega
      have hz1 : w.heap.size + 1 < wr.heap.size := by omega
      have hz3 : w.heap.size + 1 + 1 < wr.heap.size := by omega
      have hz4 : w.heap.size + 1 + 1 + 1 < wr.heap.size := by omega
      by_cases hlt : g ≤ b
      · obtain ⟨E0, hE0⟩ : ∃ E0, extRows t (rowsL a g c (d + 1)) = E0 := ⟨_, rfl⟩
        rw [hE0] at x0 x1 ⊢
        have HE0 := Lib.hid hE0
        clear hE0
        go_wp2
        go_loopw [10, 12] (fun fo i wr => ∃ s : Int, i = .int .i64 s ∧ c ≤ s ∧ s ≤ d + 1 ∧ fo = .bool (extRows t (rowsL a g c (d + 1) ++ rowL g c s)).isSome ∧ w1.heap.size < wr.heap.size ∧ (∀ o, wr.frozen? ⟨w1.heap.size, o, none⟩ = false) ∧ (∀ o, wr.frozen? ⟨w.heap.size + 1 + 1 + 1, o, none⟩ = false) ∧ (wr.cell? ⟨w1.heap.size, 0, none⟩ = some (.int .i64 ((ext0 (extRows t (rowsL a g c (d + 1) ++ rowL g c s))).1)) ∧ wr.cell? ⟨w1.heap.size, 1, none⟩ = some (.int .i64 ((ext0 (extRows t (rowsL a g c (d + 1) ++ rowL g c s))).2))) ∧ (wr.cell? ⟨w.heap.size, 0, none⟩ = some (.int .i64 t.bg) ∧ wr.cell? ⟨w.heap.size, 1, none⟩ = some (.int .i64 t.bs) ∧ wr.cell? ⟨w.heap.size, 2, none⟩ = some (.int .i64 t.price) ∧ wr.cell? ⟨w.heap.size, 3, none⟩ = some (.int .i64 t.worst) ∧ wr.cell? ⟨w.heap.size, 4, none⟩ = some (.int .i64 t.short) ∧ wr.cell? ⟨w.heap.size, 5, none⟩ = some (.slice G t.grades.length gc) ∧ wr.cell? ⟨w.heap.size, 6, none⟩ = some (.slice S t.staples.length sc) ∧ wr.cell? ⟨w.heap.size, 7, none⟩ = some (.int .i64 t.dlo) ∧ wr.cell? ⟨w.heap.size, 8, none⟩ = some (.int .i64 t.dhi) ∧ wr.cell? ⟨w.heap.size, 9, none⟩ = some (.int .i64 t.bales) ∧ wr.cell? ⟨w.heap.size, 10, none⟩ = some (.int .i64 t.fee)) ∧ (wr.cell? ⟨w.heap.size + 1, 0, none⟩ = some (.int .i64 a) ∧ wr.cell? ⟨w.heap.size + 1, 1, none⟩ = some (.int .i64 b)) ∧ (wr.cell? ⟨w.heap.size + 1 + 1, 0, none⟩ = some (.int .i64 c) ∧ wr.cell? ⟨w.heap.size + 1 + 1, 1, none⟩ = some (.int .i64 d)) ∧ (wr.cell? ⟨w.heap.size + 1 + 1 + 1, 0, none⟩ = some (.int .i64 0) ∧ wr.cell? ⟨w.heap.size + 1 + 1 + 1, 1, none⟩ = some (.int .i64 0)) ∧ Below w.heap.size w wr) (fun _ i _ => (d + 1 - intOf i).toNat)
        case atStart =>
          refine ⟨c, rfl, by omega, by omega, by rw [rowL_nil (by omega), List.append_nil, HE0.out], hsz, hf1, hf2, ⟨by rw [rowL_nil (by omega), List.append_nil, HE0.out]; exact x0, by rw [rowL_nil (by omega), List.append_nil, HE0.out]; exact x1⟩, ⟨?_, ?_, ?_, ?_, ?_, ?_, ?_, ?_, ?_, ?_, ?_⟩, ⟨?_, ?_⟩, ⟨?_, ?_⟩, ⟨?_, ?_⟩, (by repeat' (first | (with_reducible exact Below.refl _ _) | (with_reducible assumption) | (with_reducible refine Below.alloc ?_ ?_ _) | (with_reducible refine Below.drew ?_) | (with_reducible refine below_drewN ?_ _) | (with_reducible refine Below.setCell ?_ ?_ _) | (with_reducible refine below_up ?_ (by assumption)) | go_size))⟩
          all_goals assumption
        case round =>
          clear x0 x1 k0 k1 k2 k3 k4 k5 k6 k7 k8 k9 k10 d0 d1 e0 e1 y0 y1 hz0 hz1 hz3 hz4 hsz hbr hf1 hf2
          obtain ⟨s, rfl, hcs, hsd, rfl, hsz, hf1, hf2, ⟨x0, x1⟩, ⟨k0, k1, k2, k3, k4, k5, k6, k7, k8, k9, k10⟩, ⟨d0, d1⟩, ⟨e0, e1⟩, ⟨y0, y1⟩, hbr⟩ := hrel
          have hz0 : w.heap.size < wr.heap.size := by omega
          have hz1 : w.heap.size + 1 < wr.heap.size := by omega
          have hz3 : w.heap.size + 1 + 1 < wr.heap.size := by omega
          have hz4 : w.heap.size + 1 + 1 + 1 < wr.heap.size := by omega
          have hl0 : w.heap.size ≤ wr.heap.size := by omega
          have hl1 : w.heap.size + 1 ≤ wr.heap.size := by omega
          have hl2 : w.heap.size + 1 + 1 ≤ wr.heap.size := by omega
          have hl3 : w.heap.size + 1 + 1 + 1 ≤ wr.heap.size := by omega
          have hl4 : w1.heap.size ≤ wr.heap.size := by omega
          have hn1 : w1.heap.size ≠ w.heap.size := by omega
          have hn2 : w1.heap.size ≠ w.heap.size + 1 := by omega
          have hn3 : w1.heap.size ≠ w.heap.size + 1 + 1 := by omega
          have hn4 : w1.heap.size ≠ w.heap.size + 1 + 1 + 1 := by omega
          obtain ⟨E, hE⟩ : ∃ E, extRows t (rowsL a g c (d + 1) ++ rowL g c s) = E := ⟨_, rfl⟩
          rw [hE] at x0 x1 ⊢
          have HE1 := Lib.hid hE
          clear hE
          by_cases hlt2 : s ≤ d
          · cases h1 : mayB t g s
            · have H1 := Lib.hid h1
              have HN := Lib.hid (show extRows t (rowsL a g c (d + 1) ++ rowL g c (s + 1)) = E by rw [rowL_succ (by omega), extRows_snoc, if_neg (by rw [show mayC t (g, s) = mayB t g s from rfl, h1]; simp), HE1.out])
              clear h1
              go_wp2_with (go_at_call 68; refine (mayR_any t G S gc sc g s _).mono ?_; rw [H1.out]; rintro e w' ⟨rfl, hb2⟩; have hbr2 : Below wr.heap.size wr w' := (by repeat' (first | (with_reducible exact Below.refl _ _) | (with_reducible assumption) | (with_reducible refine Below.alloc ?_ ?_ _) | (with_reducible refine Below.drew ?_) | (with_reducible refine below_drewN ?_ _) | (with_reducible refine Below.setCell ?_ ?_ _) | (with_reducible refine below_up ?_ (by assumption)) | go_size)); obtain ⟨hc, hf⟩ := bcell hbr2; have hz := hbr2.size; have hqr : wr.heap.size < w'.heap.size := (by have := hb2.size; simp at this; omega))
              go_roundw
              case rel =>
                refine ⟨s + 1, by go_num, by omega, by omega, by rw [HN.out], by omega, ?_, ?_, ⟨by rw [HN.out]; (simp (disch := (first | omega | (simp only [World.size_alloc, World.size_drew, World.size_setCell]; omega) | (simp; done))) [*, go_sem]; done), by rw [HN.out]; (simp (disch := (first | omega | (simp only [World.size_alloc, World.size_drew, World.size_setCell]; omega) | (simp; done))) [*, go_sem]; done)⟩, ⟨?_, ?_, ?_, ?_, ?_, ?_, ?_, ?_, ?_, ?_, ?_⟩, ⟨?_, ?_⟩, ⟨?_, ?_⟩, ⟨?_, ?_⟩, (by repeat' (first | (with_reducible exact Below.refl _ _) | (with_reducible assumption) | (with_reducible refine Below.alloc ?_ ?_ _) | (with_reducible refine Below.drew ?_) | (with_reducible refine below_drewN ?_ _) | (with_reducible refine Below.setCell ?_ ?_ _) | (with_reducible refine below_up ?_ (by assumption)) | go_size))⟩
                all_goals first | (simp [*, go_sem]; done) | (simp (disch := (first | omega | (simp only [World.size_alloc, World.size_drew, World.size_setCell]; omega) | (simp; done))) [*, go_sem]; done) | (intro o; simp (disch := (first | omega | (simp only [World.size_alloc, World.size_drew, World.size_setCell]; omega) | (simp; done))) [*, go_sem]; done)
              case measure => simp [intOf]; omega
            · have H1 := Lib.hid h1
              have HN := Lib.hid (show extRows t (rowsL a g c (d + 1) ++ rowL g c (s + 1)) = extStep E (valueI t g s) by rw [rowL_succ (by omega), extRows_snoc, if_pos (by rw [show mayC t (g, s) = mayB t g s from rfl, h1]), HE1.out]; rfl)
              have HV := Lib.hid (fun W (hW : Below w.heap.size w W) => valueR_any t G S gc sc g s W (HT.out.below hW) Ht.out (by omega) (by omega))
              generalize valueI t g s = n at HN HV
              clear h1
              cases E with
              | none =>
                simp only [ext0, Option.getD] at x0 x1
                go_wp2_with (first | (go_at_call 68; refine (mayR_any t G S gc sc g s _).mono ?_; rw [H1.out]; rintro e w' ⟨rfl, hb2⟩; have hbr2 : Below wr.heap.size wr w' := (by repeat' (first | (with_reducible exact Below.refl _ _) | (with_reducible assumption) | (with_reducible refine Below.alloc ?_ ?_ _) | (with_reducible refine Below.drew ?_) | (with_reducible refine below_drewN ?_ _) | (with_reducible refine Below.setCell ?_ ?_ _) | (with_reducible refine below_up ?_ (by assumption)) | go_size)); obtain ⟨hc, hf⟩ := bcell hbr2; have hz := hbr2.size; have hcb0 := hb2.cell (p := ⟨wr.heap.size, 0, none⟩) (by simp); have hcb1 := hb2.cell (p := ⟨wr.heap.size, 1, none⟩) (by simp); simp [go_sem] at hcb0 hcb1; have hqr : wr.heap.size < w'.heap.size := (by have := hb2.size; simp at this; omega)) | (go_at_call 73; refine (HV.out _ (by repeat' (first | (with_reducible exact Below.refl _ _) | (with_reducible assumption) | (with_reducible refine Below.alloc ?_ ?_ _) | (with_reducible refine Below.drew ?_) | (with_reducible refine below_drewN ?_ _) | (with_reducible refine Below.setCell ?_ ?_ _) | (with_reducible refine below_up ?_ (by assumption)) | go_size))).mono ?_; rintro e w'' ⟨rfl, hb3⟩; have hbr3 : Below wr.heap.size wr w'' := hbr2.trans (hb3.mono hbr2.size); clear hc hf; obtain ⟨hc, hf⟩ := bcell hbr3; have hz3 := hbr3.size))
                go_roundw
                case rel =>
                  refine ⟨s + 1, by go_num, by omega, by omega, by rw [HN.out]; rfl, by simp; omega, ?_, ?_, ⟨by rw [HN.out]; simp [*, go_sem, extStep, ext0]; try (rw [World.cell?_setCell_same' _ _ _ (by repeat (refine isSome_set _ _ _ _ ?_); simp [*, go_sem])]), by rw [HN.out]; simp [*, go_sem, extStep, ext0]; try (rw [World.cell?_setCell_same' _ _ _ (by repeat (refine isSome_set _ _ _ _ ?_); simp [*, go_sem])])⟩, ⟨?_, ?_, ?_, ?_, ?_, ?_, ?_, ?_, ?_, ?_, ?_⟩, ⟨?_, ?_⟩, ⟨?_, ?_⟩, ⟨?_, ?_⟩, (by repeat' (first | (with_reducible exact Below.refl _ _) | (with_reducible assumption) | (with_reducible refine Below.alloc ?_ ?_ _) | (with_reducible refine Below.drew ?_) | (with_reducible refine below_drewN ?_ _) | (with_reducible refine Below.setCell ?_ ?_ _) | (with_reducible refine below_up ?_ (by assumption)) | go_size))⟩
                  all_goals first | (simp [*, go_sem]; done) | (simp (disch := (first | omega | (simp only [World.size_alloc, World.size_drew, World.size_setCell]; omega) | (simp; done))) [*, go_sem]; done) | (intro o; simp (disch := (first | omega | (simp only [World.size_alloc, World.size_drew, World.size_setCell]; omega) | (simp; done))) [*, go_sem]; done)
                case measure => simp [intOf]; omega
              | some r =>
                obtain ⟨p, q⟩ := r
                simp only [ext0, Option.getD] at x0 x1
                have HS := Lib.hid (show extStep (some (p, q)) n = some (if n < p then n else p, if q < n then n else q) by
                  simp only [extStep, Int.min_def, Int.max_def]
                  have e1 : (if p ≤ n then p else n) = (if n < p then n else p) := by split <;> split <;> omega
                  have e2 : (if q ≤ n then n else q) = (if q < n then n else q) := by split <;> split <;> omega
                  rw [e1, e2])
                by_cases hp : n < p <;> by_cases hq : q < n
                all_goals
                  have HS1 := HN.out.trans HS.out
                  simp only [hp, hq, if_true, if_false] at HS1
                  have HS2 := Lib.hid HS1
                  clear HS1
                  go_wp2_with (first | (go_at_call 68; refine (mayR_any t G S gc sc g s _).mono ?_; rw [H1.out]; rintro e w' ⟨rfl, hb2⟩; have hbr2 : Below wr.heap.size wr w' := (by repeat' (first | (with_reducible exact Below.refl _ _) | (with_reducible assumption) | (with_reducible refine Below.alloc ?_ ?_ _) | (with_reducible refine Below.drew ?_) | (with_reducible refine below_drewN ?_ _) | (with_reducible refine Below.setCell ?_ ?_ _) | (with_reducible refine below_up ?_ (by assumption)) | go_size)); obtain ⟨hc, hf⟩ := bcell hbr2; have hz := hbr2.size; have hcb0 := hb2.cell (p := ⟨wr.heap.size, 0, none⟩) (by simp); have hcb1 := hb2.cell (p := ⟨wr.heap.size, 1, none⟩) (by simp); simp [go_sem] at hcb0 hcb1; have hqr : wr.heap.size < w'.heap.size := (by have := hb2.size; simp at this; omega)) | (go_at_call 73; refine (HV.out _ (by repeat' (first | (with_reducible exact Below.refl _ _) | (with_reducible assumption) | (with_reducible refine Below.alloc ?_ ?_ _) | (with_reducible refine Below.drew ?_) | (with_reducible refine below_drewN ?_ _) | (with_reducible refine Below.setCell ?_ ?_ _) | (with_reducible refine below_up ?_ (by assumption)) | go_size))).mono ?_; rintro e w'' ⟨rfl, hb3⟩; have hbr3 : Below wr.heap.size wr w'' := hbr2.trans (hb3.mono hbr2.size); clear hc hf; obtain ⟨hc, hf⟩ := bcell hbr3; have hz3 := hbr3.size))
                  go_roundw
                  case rel =>
                    refine ⟨s + 1, by go_num, by omega, by omega, by rw [HS2.out]; rfl, by simp; omega, ?_, ?_, ⟨by rw [HS2.out]; simp [*, go_sem, ext0]; try (rw [World.cell?_setCell_same' _ _ _ (by repeat (refine isSome_set _ _ _ _ ?_); simp [*, go_sem])]), by rw [HS2.out]; simp [*, go_sem, ext0]; try (rw [World.cell?_setCell_same' _ _ _ (by repeat (refine isSome_set _ _ _ _ ?_); simp [*, go_sem])])⟩, ⟨?_, ?_, ?_, ?_, ?_, ?_, ?_, ?_, ?_, ?_, ?_⟩, ⟨?_, ?_⟩, ⟨?_, ?_⟩, ⟨?_, ?_⟩, (by repeat' (first | (with_reducible exact Below.refl _ _) | (with_reducible assumption) | (with_reducible refine Below.alloc ?_ ?_ _) | (with_reducible refine Below.drew ?_) | (with_reducible refine below_drewN ?_ _) | (with_reducible refine Below.setCell ?_ ?_ _) | (with_reducible refine below_up ?_ (by assumption)) | go_size))⟩
                    all_goals first | (simp [*, go_sem]; done) | (simp (disch := (first | omega | (simp only [World.size_alloc, World.size_drew, World.size_setCell]; omega) | (simp; done))) [*, go_sem]; done) | (intro o; simp (disch := (first | omega | (simp only [World.size_alloc, World.size_drew, World.size_setCell]; omega) | (simp; done))) [*, go_sem]; done)
                  case measure => simp [intOf]; omega
          · have hse : s = d + 1 := by omega
            have HN := Lib.hid (show extRows t (rowsL a (g + 1) c (d + 1)) = E by have h9 := HE1.out; rw [hse] at h9; rw [rowsL_succ (by omega)]; exact h9)
            clear hse
            go_wp2
            go_roundw
            case rel =>
              refine ⟨g + 1, by go_num, by omega, by omega, by rw [HN.out], hsz, hf1, hf2, ⟨by rw [HN.out]; exact x0, by rw [HN.out]; exact x1⟩, ⟨?_, ?_, ?_, ?_, ?_, ?_, ?_, ?_, ?_, ?_, ?_⟩, ⟨?_, ?_⟩, ⟨?_, ?_⟩, ⟨?_, ?_⟩, (by repeat' (first | (with_reducible exact Below.refl _ _) | (with_reducible assumption) | (with_reducible refine Below.alloc ?_ ?_ _) | (with_reducible refine Below.drew ?_) | (with_reducible refine below_drewN ?_ _) | (with_reducible refine Below.setCell ?_ ?_ _) | (with_reducible refine below_up ?_ (by assumption)) | go_size))⟩
              all_goals assumption
            case measure => simp [intOf]; omega
      · have hge : g = b + 1 := by omega
        obtain ⟨E0, hE0⟩ : ∃ E0, extRows t (rowsL a g c (d + 1)) = E0 := ⟨_, rfl⟩
        rw [hE0] at x0 x1 ⊢
        rw [hge] at hE0
        rw [hE0] at Hf
        clear hE0 hge
        cases E0 with
        | none =>
          go_wp2
          rw [Hf.out]
          refine bodyPost_ret (v := .tuple #[.agg #[.int .i64 0, .int .i64 0], .int .i64 6]) (by simp [*, results, Tryd.results40, go_sem]) rfl ?_
          exact ⟨rfl, (by repeat' (first | (with_reducible exact Below.refl _ _) | (with_reducible assumption) | (with_reducible refine Below.alloc ?_ ?_ _) | (with_reducible refine Below.drew ?_) | (with_reducible refine below_drewN ?_ _) | (with_reducible refine Below.setCell ?_ ?_ _) | (with_reducible refine below_up ?_ (by assumption)) | go_size))⟩
        | some r =>
          obtain ⟨p, q⟩ := r
          simp only [ext0, Option.getD] at x0 x1
          go_wp2
          rw [Hf.out]
          refine bodyPost_ret (v := .tuple #[.agg #[.int .i64 p, .int .i64 q], .int .i64 0]) (by simp [*, results, Tryd.results40, go_sem]) rfl ?_
          exact ⟨rfl, (by repeat' (first | (with_reducible exact Below.refl _ _) | (with_reducible assumption) | (with_reducible refine Below.alloc ?_ ?_ _) | (with_reducible refine Below.drew ?_) | (with_reducible refine below_drewN ?_ _) | (with_reducible refine Below.setCell ?_ ?_ _) | (with_reducible refine below_up ?_ (by assumption)) | go_size))⟩
  · have h' : (err1 t a b c d != 0) = true := by simp [h]
    have Hf := Lib.hid (show rangeP t a b c d = (0, 0, err1 t a b c d) by unfold rangeP; rw [if_pos h])
    clear h
    go_enter Tryd.func40, Tryd.ntmps40
    go_wp2_with (go_at_call 93; refine (HC.out _ (by repeat' (first | (with_reducible exact Below.refl _ _) | (with_reducible assumption) | (with_reducible refine Below.alloc ?_ ?_ _) | (with_reducible refine Below.drew ?_) | (with_reducible refine below_drewN ?_ _) | (with_reducible refine Below.setCell ?_ ?_ _) | (with_reducible refine below_up ?_ (by assumption)) | go_size))).mono ?_; rintro e w' ⟨rfl, hb⟩; obtain ⟨hc, hf⟩ := bcell hb; have hz := (hb).size; (try simp at hz); have hz2 : w.heap.size < (w').heap.size := (by omega); (try have hq1 : w.heap.size + 1 < (w').heap.size := (by omega)); (try have hq2 : w.heap.size + 1 + 1 < (w').heap.size := (by omega)); (try have hq3 : w.heap.size + 1 + 1 + 1 < (w').heap.size := (by omega)))
    rw [Hf.out]
    refine bodyPost_ret (v := .tuple #[.agg #[.int .i64 0, .int .i64 0], .int .i64 (err1 t a b c d)]) (by simp [*, results, Tryd.results40, go_sem]) rfl ?_
    exact ⟨rfl, (by repeat' (first | (with_reducible exact Below.refl _ _) | (with_reducible assumption) | (with_reducible refine Below.alloc ?_ ?_ _) | (with_reducible refine Below.drew ?_) | (with_reducible refine below_drewN ?_ _) | (with_reducible refine Below.setCell ?_ ?_ _) | (with_reducible refine below_up ?_ (by assumption)) | go_size))⟩
end Go.Proofs.YtppejcmjjjfamaaDoor
