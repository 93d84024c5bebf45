/- terms.Invoice, terms.Allows. -/
import Derived.Test.YtppejcmjjjfamaaDoorKnown
import Derived.Test.YtppejcmjjjfamaaDoorRefTells
namespace Go.Proofs.YtppejcmjjjfamaaDoor
open Go.RowKit

set_option maxHeartbeats 400000 in
theorem oneT_eq (n : Int) (w : World) : Calls Tryd.prog 74 #[.int .i64 n] w fun e w' => e = .returned (.agg #[.int .i64 n, .int .i64 n]) ∧ w.alloc (.cells #[.int .i64 n, .int .i64 n] 26) = w' := by
  go_enter Tryd.func74, Tryd.ntmps74
  go_wp2
  go_returns
  exact ⟨rfl, rfl⟩

theorem err1_one (t : TT) (g s : Int) : err1 t g g s s = askE t g s := by
  have h1 : badSpan (g, g) = !inB 1 9 g := by simp [badSpan, spanB]
  have h2 : badSpan (s, s) = !inB 1 9 s := by simp [badSpan, spanB]
  simp only [err1, errO, errR, errT, orI, askE, errC, List.any_cons, List.any_nil, Bool.or_false, h1, h2]
  cases okT t <;> cases inB 1 9 g <;> cases inB 1 9 s <;> simp

set_option maxHeartbeats 8000000 in
theorem invoiceT_any (t : TT) (G S : Option Addr) (gc sc : Nat) (g s : Int) (w : World) (hL : Laid w) (hT : TermsA w G S t) :
    Calls Tryd.prog 24 #[.agg #[.int .i64 t.bg, .int .i64 t.bs, .int .i64 t.price, .int .i64 t.worst, .int .i64 t.short, .slice G t.grades.length gc, .slice S t.staples.length sc, .int .i64 t.dlo, .int .i64 t.dhi, .int .i64 t.bales, .int .i64 t.fee], .agg #[.int .i64 g, .int .i64 s]] w fun e w' => e = .returned (.tuple #[.int .i64 (invoiceP t g s).1, .int .i64 (invoiceP t g s).2]) ∧ Below w.heap.size w w' := by
  have HL := Lib.hid hL
  have HT := Lib.hid hT
  clear hL hT
  go_enter Tryd.func24, Tryd.ntmps24
  go_upto_region 1 with fail
  go_cut [6, 7] (fun s10 s11 wx => ∃ k : Nat, s10 = .pointer (some ⟨k, 0, none⟩) ∧ s11 = .int .i64 (askE t g s) ∧ k < wx.heap.size ∧ w.heap.size + 1 < wx.heap.size ∧ (wx.cell? ⟨k, 0, none⟩ = some (.int .i64 t.bg) ∧ wx.cell? ⟨k, 1, none⟩ = some (.int .i64 t.bs) ∧ wx.cell? ⟨k, 2, none⟩ = some (.int .i64 t.price) ∧ wx.cell? ⟨k, 3, none⟩ = some (.int .i64 t.worst) ∧ wx.cell? ⟨k, 4, none⟩ = some (.int .i64 t.short) ∧ wx.cell? ⟨k, 5, none⟩ = some (.slice G t.grades.length gc) ∧ wx.cell? ⟨k, 6, none⟩ = some (.slice S t.staples.length sc) ∧ wx.cell? ⟨k, 7, none⟩ = some (.int .i64 t.dlo) ∧ wx.cell? ⟨k, 8, none⟩ = some (.int .i64 t.dhi) ∧ wx.cell? ⟨k, 9, none⟩ = some (.int .i64 t.bales) ∧ wx.cell? ⟨k, 10, none⟩ = some (.int .i64 t.fee)) ∧ (wx.cell? ⟨w.heap.size + 1, 0, none⟩ = some (.int .i64 g) ∧ wx.cell? ⟨w.heap.size + 1, 1, none⟩ = some (.int .i64 s)) ∧ Below w.heap.size w wx)
  case first =>
    go_region_held3 (fun w' => w'.cell? ⟨w.heap.size, 0, none⟩ = some (.int .i64 t.bg) ∧ w'.cell? ⟨w.heap.size, 1, none⟩ = some (.int .i64 t.bs) ∧ w'.cell? ⟨w.heap.size, 2, none⟩ = some (.int .i64 t.price) ∧ w'.cell? ⟨w.heap.size, 3, none⟩ = some (.int .i64 t.worst) ∧ w'.cell? ⟨w.heap.size, 4, none⟩ = some (.int .i64 t.short) ∧ w'.cell? ⟨w.heap.size, 5, none⟩ = some (.slice G t.grades.length gc) ∧ w'.cell? ⟨w.heap.size, 6, none⟩ = some (.slice S t.staples.length sc) ∧ w'.cell? ⟨w.heap.size, 7, none⟩ = some (.int .i64 t.dlo) ∧ w'.cell? ⟨w.heap.size, 8, none⟩ = some (.int .i64 t.dhi) ∧ w'.cell? ⟨w.heap.size, 9, none⟩ = some (.int .i64 t.bales) ∧ w'.cell? ⟨w.heap.size, 10, none⟩ = some (.int .i64 t.fee) ∧ w'.cell? ⟨w.heap.size + 1, 0, none⟩ = some (.int .i64 g) ∧ w'.cell? ⟨w.heap.size + 1, 1, none⟩ = some (.int .i64 s)) (first | (simp [*, go_sem]; done) | (simp (disch := (first | omega | (simp only [World.size_alloc, World.size_drew, World.size_setCell]; omega) | (simp; done))) [*, go_sem]; done)) (first
      | (go_at_call 78; refine (spansT_any _ _ _ _).mono ?_; rintro e w' ⟨rfl, rfl⟩)
      | (go_at_call 74; refine (oneT_eq _ _).mono ?_; rintro e w' ⟨rfl, rfl⟩)
      | (go_at_call 77; refine (opened11 t G S gc sc g g s s _ _ _ _ _ (HL.out.below (by repeat' (first | (with_reducible exact Below.refl _ _) | (with_reducible assumption) | (with_reducible refine Below.alloc ?_ ?_ _) | (with_reducible refine Below.drew ?_) | (with_reducible refine below_drewN ?_ _) | (with_reducible refine Below.setCell ?_ ?_ _) | (with_reducible refine below_up ?_ (by assumption)) | go_size))) (HT.out.below (by repeat' (first | (with_reducible exact Below.refl _ _) | (with_reducible assumption) | (with_reducible refine Below.alloc ?_ ?_ _) | (with_reducible refine Below.drew ?_) | (with_reducible refine below_drewN ?_ _) | (with_reducible refine Below.setCell ?_ ?_ _) | (with_reducible refine below_up ?_ (by assumption)) | go_size))) (by first | omega | (simp only [World.size_alloc, World.size_drew, World.size_setCell]; omega) | (simp; done) | (simp; omega)) (by first | omega | (simp only [World.size_alloc, World.size_drew, World.size_setCell]; omega) | (simp; done) | (simp; omega)) (by simp [*, go_sem]) (by simp [*, go_sem]) (by simp [*, go_sem]) (by simp [*, go_sem])).mono ?_; rw [err1_one]; rintro e w' ⟨rfl, hb⟩; obtain ⟨hc, hf⟩ := bcell hb; have hz := (hb).size; (try simp at hz); have hz2 : w.heap.size < (w').heap.size := (by omega); (try have hq1 : w.heap.size + 1 < (w').heap.size := (by omega)); (try have hq2 : w.heap.size + 1 + 1 < (w').heap.size := (by omega)); (try have hq3 : w.heap.size + 1 + 1 + 1 < (w').heap.size := (by omega)); have hcw0 := fun o => hc (w.heap.size) o (by first | assumption | omega | (simp; done) | (simp; omega)); have hcw1 := fun o => hc (w.heap.size + 1) o (by first | assumption | omega | (simp; done) | (simp; omega))))
    all_goals go_wp2_with fail
    all_goals go_meet
    all_goals refine ⟨_, rfl, rfl, ?_, ?_, ⟨?_, ?_, ?_, ?_, ?_, ?_, ?_, ?_, ?_, ?_, ?_⟩, ⟨?_, ?_⟩, (by repeat' (first | (with_reducible exact Below.refl _ _) | (with_reducible assumption) | (with_reducible refine Below.alloc ?_ ?_ _) | (with_reducible refine Below.drew ?_) | (with_reducible refine below_drewN ?_ _) | (with_reducible refine Below.setCell ?_ ?_ _) | (with_reducible refine below_up ?_ (by assumption)) | go_size))⟩
    all_goals first | (simp [*, go_sem]; done) | (simp (disch := (first | omega | (simp only [World.size_alloc, World.size_drew, World.size_setCell]; omega) | (simp; done))) [*, go_sem]; done) | (simp [*, go_sem]; omega)
  case rest =>
    obtain ⟨k, rfl, rfl, hk, hk2, ⟨c0, c1, c2, c3, c4, c5, c6, c7, c8, c9, c10⟩, ⟨d0, d1⟩, hbW⟩ := hcut
    by_cases h : askE t g s = 0
    · have h' : (askE t g s != 0) = false := by simp [h]
      cases h2 : mayB t g s
      · have Hf := Lib.hid (show invoiceP t g s = (0, 6) by simp [invoiceP, h, h2])
        have H2 := Lib.hid h2
        clear h h2
        go_wp2_with (go_at_call 79; refine (mayT_any t G S gc sc g s _).mono ?_; rw [H2.out]; rintro e w' ⟨rfl, hb⟩)
        go_ret2
        exact ⟨by rw [Hf.out]; rfl, (by repeat' (first | (with_reducible exact Below.refl _ _) | (with_reducible assumption) | (with_reducible refine Below.alloc ?_ ?_ _) | (with_reducible refine Below.drew ?_) | (with_reducible refine below_drewN ?_ _) | (with_reducible refine Below.setCell ?_ ?_ _) | (with_reducible refine below_up ?_ (by assumption)) | go_size))⟩
      · have Hf := Lib.hid (show invoiceP t g s = (valueI t g s, 0) by simp [invoiceP, h, h2])
        obtain ⟨ok, hg, hs⟩ := askE_zero h
        have HV := Lib.hid (fun W (hW : Below w.heap.size w W) => valueT_any t G S gc sc g s W (HT.out.below hW) (okT.tabs ok) hg hs)
        have H2 := Lib.hid h2
        clear h h2 ok hg hs
        go_wp2_with (first
          | (go_at_call 79; refine (mayT_any t G S gc sc g s _).mono ?_; rw [H2.out]; rintro e w' ⟨rfl, hb⟩; obtain ⟨hc, hf⟩ := bcell hb; have hz := hb.size; have hv1 : k < w'.heap.size := (by omega); have hv2 : w.heap.size + 1 < w'.heap.size := (by omega))
          | (go_at_call 80; refine (HV.out _ (by repeat' (first | (with_reducible exact Below.refl _ _) | (with_reducible assumption) | (with_reducible refine Below.alloc ?_ ?_ _) | (with_reducible refine Below.drew ?_) | (with_reducible refine below_drewN ?_ _) | (with_reducible refine Below.setCell ?_ ?_ _) | (with_reducible refine below_up ?_ (by assumption)) | go_size))).mono ?_; rintro e w' ⟨rfl, hb⟩))
        go_ret2
        exact ⟨by rw [Hf.out]; rfl, (by repeat' (first | (with_reducible exact Below.refl _ _) | (with_reducible assumption) | (with_reducible refine Below.alloc ?_ ?_ _) | (with_reducible refine Below.drew ?_) | (with_reducible refine below_drewN ?_ _) | (with_reducible refine Below.setCell ?_ ?_ _) | (with_reducible refine below_up ?_ (by assumption)) | go_size))⟩
    · have h' : (askE t g s != 0) = true := by simp [h]
      have Hf := Lib.hid (show invoiceP t g s = (0, askE t g s) by simp [invoiceP, h])
      clear h
      go_wp2_with fail
      go_ret2
      exact ⟨by rw [Hf.out]; rfl, (by repeat' (first | (with_reducible exact Below.refl _ _) | (with_reducible assumption) | (with_reducible refine Below.alloc ?_ ?_ _) | (with_reducible refine Below.drew ?_) | (with_reducible refine below_drewN ?_ _) | (with_reducible refine Below.setCell ?_ ?_ _) | (with_reducible refine below_up ?_ (by assumption)) | go_size))⟩
end Go.Proofs.YtppejcmjjjfamaaDoor
