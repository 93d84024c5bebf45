/- terms.Known. -/
import Derived.Test.YtppejcmjjjfamaaDoorOpened
import Derived.Deep.DeepCutAuto
namespace Go.Proofs.YtppejcmjjjfamaaDoor
open Go.RowKit

theorem SpansA.one {w : World} {b : Nat} {x y : Int} (hb : b < w.heap.size) (h0 : w.cell? ⟨b, 0, none⟩ = some (.int .i64 x)) (h1 : w.cell? ⟨b, 1, none⟩ = some (.int .i64 y)) : SpansA w (some ⟨b, 0, none⟩) [(x, y)] :=
  fun _ => ⟨b, 0, rfl, hb, fun i hi => by
    have : i = 0 := by simpa using hi
    subst this
    exact ⟨by simpa [nth] using h0, by simpa [nth] using h1⟩⟩
/-- the error of terms, then of one span of grades, then of one of staples -/
def err1 (t : TT) (a b x y : Int) : Int := errO t [(a, b)] [(x, y)]
theorem opened11 (t : TT) (G S : Option Addr) (gc sc : Nat) (x1 y1 x2 y2 : Int) (b1 b2 c d : Nat) (w : World) (hL : Laid w) (hT : TermsA w G S t) (h1 : b1 < w.heap.size) (h2 : b2 < w.heap.size)
    (p1 : w.cell? ⟨b1, 0, none⟩ = some (.int .i64 x1)) (q1 : w.cell? ⟨b1, 1, none⟩ = some (.int .i64 y1)) (p2 : w.cell? ⟨b2, 0, none⟩ = some (.int .i64 x2)) (q2 : w.cell? ⟨b2, 1, none⟩ = some (.int .i64 y2)) :
    Calls Tryd.prog 77 #[.agg #[.int .i64 t.bg, .int .i64 t.bs, .int .i64 t.price, .int .i64 t.worst, .int .i64 t.short, .slice G t.grades.length gc, .slice S t.staples.length sc, .int .i64 t.dlo, .int .i64 t.dhi, .int .i64 t.bales, .int .i64 t.fee], .slice (some ⟨b1, 0, none⟩) 1 c, .slice (some ⟨b2, 0, none⟩) 1 d] w fun e w' => e = .returned (.tuple #[.agg #[.int .i64 t.bg, .int .i64 t.bs, .int .i64 t.price, .int .i64 t.worst, .int .i64 t.short, .slice G t.grades.length gc, .slice S t.staples.length sc, .int .i64 t.dlo, .int .i64 t.dhi, .int .i64 t.bales, .int .i64 t.fee], .int .i64 (err1 t x1 y1 x2 y2)]) ∧ Below w.heap.size w w' :=
  openedT_any t G S gc sc [(x1, y1)] [(x2, y2)] _ _ c d w hL hT (SpansA.one h1 p1 q1) (SpansA.one h2 p2 q2) (by simp [maxLen]) (by simp [maxLen])

/-- what is known of a bale in a month, or the error -/
def knownP (t : TT) (g1 g2 s1 s2 m : Int) : Int × Int :=
  if err1 t g1 g2 s1 s2 ≠ 0 then (0, err1 t g1 g2 s1 s2) else if inB 0 60 m = false then (0, 44)
  else if dueB t m = false ∨ mayB t g1 s2 = false then (0, 0) else if ¬(g1 = g2 ∧ s2 = s1) ∧ mayB t g2 s1 = false then (1, 0) else (2, 0)

set_option maxHeartbeats 4000000 in
theorem knownT_any (t : TT) (G S : Option Addr) (gc sc : Nat) (g1 g2 s1 s2 m : Int) (w : World) (hL : Laid w) (hT : TermsA w G S t) :
    Calls Tryd.prog 37 #[.agg #[.int .i64 t.bg, .int .i64 t.bs, .int .i64 t.price, .int .i64 t.worst, .int .i64 t.short, .slice G t.grades.length gc, .slice S t.staples.length sc, .int .i64 t.dlo, .int .i64 t.dhi, .int .i64 t.bales, .int .i64 t.fee], .agg #[.int .i64 g1, .int .i64 g2], .agg #[.int .i64 s1, .int .i64 s2], .int .i64 m] w fun e w' => e = .returned (.tuple #[.int .u8 (knownP t g1 g2 s1 s2 m).1, .int .i64 (knownP t g1 g2 s1 s2 m).2]) ∧ Below w.heap.size w w' := by
  have HL := Lib.hid hL
  have HT := Lib.hid hT
  clear hL hT
  go_enter Tryd.func37, Tryd.ntmps37
  go_upto_region 1 with fail
  go_cut [10, 11] (fun s10 s11 wx => ∃ k : Nat, s10 = .pointer (some ⟨k, 0, none⟩) ∧ s11 = .int .i64 (err1 t g1 g2 s1 s2) ∧ k < wx.heap.size ∧ w.heap.size + 1 + 1 < wx.heap.size ∧ (wx.cell? ⟨k, 0, none⟩ = some (.int .i64 t.bg) ∧ wx.cell? ⟨k, 1, none⟩ = some (.int .i64 t.bs) ∧ wx.cell? ⟨k, 2, none⟩ = some (.int .i64 t.price) ∧ wx.cell? ⟨k, 3, none⟩ = some (.int .i64 t.worst) ∧ wx.cell? ⟨k, 4, none⟩ = some (.int .i64 t.short) ∧ wx.cell? ⟨k, 5, none⟩ = some (.slice G t.grades.length gc) ∧ wx.cell? ⟨k, 6, none⟩ = some (.slice S t.staples.length sc) ∧ wx.cell? ⟨k, 7, none⟩ = some (.int .i64 t.dlo) ∧ wx.cell? ⟨k, 8, none⟩ = some (.int .i64 t.dhi) ∧ wx.cell? ⟨k, 9, none⟩ = some (.int .i64 t.bales) ∧ wx.cell? ⟨k, 10, none⟩ = some (.int .i64 t.fee)) ∧ (wx.cell? ⟨w.heap.size + 1, 0, none⟩ = some (.int .i64 g1) ∧ wx.cell? ⟨w.heap.size + 1, 1, none⟩ = some (.int .i64 g2)) ∧ (wx.cell? ⟨w.heap.size + 1 + 1, 0, none⟩ = some (.int .i64 s1) ∧ wx.cell? ⟨w.heap.size + 1 + 1, 1, none⟩ = some (.int .i64 s2)) ∧ Below w.heap.size w wx)
  case first =>
    go_region_held3 (fun w' => w'.cell? ⟨w.heap.size, 0, none⟩ = some (.int .i64 t.bg) ∧ w'.cell? ⟨w.heap.size, 1, none⟩ = some (.int .i64 t.bs) ∧ w'.cell? ⟨w.heap.size, 2, none⟩ = some (.int .i64 t.price) ∧ w'.cell? ⟨w.heap.size, 3, none⟩ = some (.int .i64 t.worst) ∧ w'.cell? ⟨w.heap.size, 4, none⟩ = some (.int .i64 t.short) ∧ w'.cell? ⟨w.heap.size, 5, none⟩ = some (.slice G t.grades.length gc) ∧ w'.cell? ⟨w.heap.size, 6, none⟩ = some (.slice S t.staples.length sc) ∧ w'.cell? ⟨w.heap.size, 7, none⟩ = some (.int .i64 t.dlo) ∧ w'.cell? ⟨w.heap.size, 8, none⟩ = some (.int .i64 t.dhi) ∧ w'.cell? ⟨w.heap.size, 9, none⟩ = some (.int .i64 t.bales) ∧ w'.cell? ⟨w.heap.size, 10, none⟩ = some (.int .i64 t.fee) ∧ w'.cell? ⟨w.heap.size + 1, 0, none⟩ = some (.int .i64 g1) ∧ w'.cell? ⟨w.heap.size + 1, 1, none⟩ = some (.int .i64 g2) ∧ w'.cell? ⟨w.heap.size + 2, 0, none⟩ = some (.int .i64 s1) ∧ w'.cell? ⟨w.heap.size + 2, 1, none⟩ = some (.int .i64 s2)) (first | (simp [*, go_sem]; done) | (simp [*, go_sem]; omega)) (first
      | (go_at_call 78; refine (spansT_any _ _ _ _).mono ?_; rintro e w' ⟨rfl, rfl⟩)
      | (go_at_call 77; refine (opened11 t G S gc sc g1 g2 s1 s2 _ _ _ _ _ (HL.out.below (by repeat' (first | (with_reducible exact Below.refl _ _) | (with_reducible assumption) | (with_reducible refine Below.alloc ?_ ?_ _) | (with_reducible refine Below.drew ?_) | (with_reducible refine below_drewN ?_ _) | (with_reducible refine Below.setCell ?_ ?_ _) | (with_reducible refine below_up ?_ (by assumption)) | go_size))) (HT.out.below (by repeat' (first | (with_reducible exact Below.refl _ _) | (with_reducible assumption) | (with_reducible refine Below.alloc ?_ ?_ _) | (with_reducible refine Below.drew ?_) | (with_reducible refine below_drewN ?_ _) | (with_reducible refine Below.setCell ?_ ?_ _) | (with_reducible refine below_up ?_ (by assumption)) | go_size))) (by simp) (by simp) (by simp [go_sem]) (by simp [go_sem]) (by simp [go_sem]) (by simp [go_sem])).mono ?_; rintro e w' ⟨rfl, hb⟩; obtain ⟨hc, hf⟩ := bcell hb; have hz := (hb).size; (try simp at hz); have hz2 : w.heap.size < (w').heap.size := (by omega); (try have hq1 : w.heap.size + 1 < (w').heap.size := (by omega)); (try have hq2 : w.heap.size + 1 + 1 < (w').heap.size := (by omega)); (try have hq3 : w.heap.size + 1 + 1 + 1 < (w').heap.size := (by omega)); have hz3 : w.heap.size + 1 < w'.heap.size := (by omega); have hz4 : w.heap.size + 2 < w'.heap.size := (by omega); have hcw0 := fun o => hc (w.heap.size) o (by first | assumption | omega | (simp; done) | (simp; omega)); have hcw1 := fun o => hc (w.heap.size + 1) o (by first | assumption | omega | (simp; done) | (simp; omega)); have hcw2 := fun o => hc (w.heap.size + 2) o (by first | assumption | omega | (simp; done) | (simp; omega))))
    all_goals go_wp2_with fail
    all_goals go_meet
    all_goals refine ⟨_, rfl, rfl, ?_, ?_, ⟨?_, ?_, ?_, ?_, ?_, ?_, ?_, ?_, ?_, ?_, ?_⟩, ⟨?_, ?_⟩, ⟨?_, ?_⟩, (by repeat' (first | (with_reducible exact Below.refl _ _) | (with_reducible assumption) | (with_reducible refine Below.alloc ?_ ?_ _) | (with_reducible refine Below.drew ?_) | (with_reducible refine below_drewN ?_ _) | (with_reducible refine Below.setCell ?_ ?_ _) | (with_reducible refine below_up ?_ (by assumption)) | go_size))⟩
    all_goals first | (simp [*, go_sem]; done) | (simp [*, go_sem]; omega)
  case rest =>
    obtain ⟨k, rfl, rfl, hk, hk2, ⟨c0, c1, c2, c3, c4, c5, c6, c7, c8, c9, c10⟩, ⟨d0, d1⟩, ⟨e0, e1⟩, hbW⟩ := hcut
    have hk1 : w.heap.size + 1 < wc.heap.size := by omega
    cases he : decide (err1 t g1 g2 s1 s2 = 0)
    · have he' : (err1 t g1 g2 s1 s2 != 0) = true := by simpa using he
      have Hfin := Lib.hid (show knownP t g1 g2 s1 s2 m = (0, err1 t g1 g2 s1 s2) by unfold knownP; rw [if_pos (by simpa using he)])
      clear he
      go_wp2_with fail
      go_ret2
      exact ⟨by rw [Hfin.out]; rfl, hbW⟩
    · have he0 : err1 t g1 g2 s1 s2 = 0 := by simpa using he
      have he' : (err1 t g1 g2 s1 s2 != 0) = false := by simp [he0]
      have HE := Lib.hid he0
      clear he he0
      cases hm : inB 0 60 m
      · have Hm := Lib.hid hm
        have Hfin := Lib.hid (show knownP t g1 g2 s1 s2 m = (0, 44) by unfold knownP; rw [if_neg (by simpa using HE.out), if_pos hm])
        clear hm
        go_wp2_with (go_at_call 92; refine (in_one _ _ m _ _ _ _ (by simp [go_sem]) (by simp [go_sem])).mono ?_; rw [Hm.out]; rintro e w' ⟨rfl, hb⟩)
        go_ret2
        exact ⟨by rw [Hfin.out]; rfl, (by repeat' (first | (with_reducible exact Below.refl _ _) | (with_reducible assumption) | (with_reducible refine Below.alloc ?_ ?_ _) | (with_reducible refine Below.drew ?_) | (with_reducible refine below_drewN ?_ _) | (with_reducible refine Below.setCell ?_ ?_ _) | (with_reducible refine below_up ?_ (by assumption)) | go_size))⟩
      · have Hm := Lib.hid hm
        have Hfin := Lib.hid (show knownP t g1 g2 s1 s2 m = (if dueB t m = false ∨ mayB t g1 s2 = false then (0, 0) else if ¬(g1 = g2 ∧ s2 = s1) ∧ mayB t g2 s1 = false then (1, 0) else (2, 0)) by
          unfold knownP; rw [if_neg (by simpa using HE.out), if_neg (by simp [hm])])
        clear hm
        go_upto_region 6 with (go_at_call 92; refine (in_one _ _ m _ _ _ _ (by simp [go_sem]) (by simp [go_sem])).mono ?_; rw [Hm.out]; rintro e w' ⟨rfl, hb⟩; obtain ⟨hc, hf⟩ := bcell hb; have hz := (hb).size; (try simp at hz); have hz2 : w.heap.size < (w').heap.size := (by omega); (try have hq1 : w.heap.size + 1 < (w').heap.size := (by omega)); (try have hq2 : w.heap.size + 1 + 1 < (w').heap.size := (by omega)); (try have hq3 : w.heap.size + 1 + 1 + 1 < (w').heap.size := (by omega)); have hcw0 := fun o => hc (k) o (by first | assumption | omega | (simp; done) | (simp; omega)); have hcw1 := fun o => hc (w.heap.size + 1) o (by first | assumption | omega | (simp; done) | (simp; omega)); have hcw2 := fun o => hc (w.heap.size + 1 + 1) o (by first | assumption | omega | (simp; done) | (simp; omega)); have hkw : k < w'.heap.size := (by omega))
        go_cut [12, 13] (fun s12 s13 wx => ∃ a b : Nat, s12 = .pointer (some ⟨a, 0, none⟩) ∧ s13 = .pointer (some ⟨b, 0, none⟩) ∧ k < wx.heap.size ∧ a < wx.heap.size ∧ b < wx.heap.size ∧ (wx.cell? ⟨k, 0, none⟩ = some (.int .i64 t.bg) ∧ wx.cell? ⟨k, 1, none⟩ = some (.int .i64 t.bs) ∧ wx.cell? ⟨k, 2, none⟩ = some (.int .i64 t.price) ∧ wx.cell? ⟨k, 3, none⟩ = some (.int .i64 t.worst) ∧ wx.cell? ⟨k, 4, none⟩ = some (.int .i64 t.short) ∧ wx.cell? ⟨k, 5, none⟩ = some (.slice G t.grades.length gc) ∧ wx.cell? ⟨k, 6, none⟩ = some (.slice S t.staples.length sc) ∧ wx.cell? ⟨k, 7, none⟩ = some (.int .i64 t.dlo) ∧ wx.cell? ⟨k, 8, none⟩ = some (.int .i64 t.dhi) ∧ wx.cell? ⟨k, 9, none⟩ = some (.int .i64 t.bales) ∧ wx.cell? ⟨k, 10, none⟩ = some (.int .i64 t.fee)) ∧ (wx.cell? ⟨a, 0, none⟩ = some (.int .i64 g1) ∧ wx.cell? ⟨a, 1, none⟩ = some (.int .i64 s2)) ∧ (wx.cell? ⟨b, 0, none⟩ = some (.int .i64 g2) ∧ wx.cell? ⟨b, 1, none⟩ = some (.int .i64 s1)) ∧ Below w.heap.size w wx)
        case first =>
          go_region
          all_goals go_wp2_with fail
          all_goals go_meet
          all_goals refine ⟨_, _, rfl, rfl, ?_, ?_, ?_, ⟨?_, ?_, ?_, ?_, ?_, ?_, ?_, ?_, ?_, ?_, ?_⟩, ⟨?_, ?_⟩, ⟨?_, ?_⟩, (by repeat' (first | (with_reducible exact Below.refl _ _) | (with_reducible assumption) | (with_reducible refine Below.alloc ?_ ?_ _) | (with_reducible refine Below.drew ?_) | (with_reducible refine below_drewN ?_ _) | (with_reducible refine Below.setCell ?_ ?_ _) | (with_reducible refine below_up ?_ (by assumption)) | go_size))⟩
          all_goals (first | (simp [*, go_sem]; done) | (simp [*, go_sem]; omega) | (intro o; simp [*, go_sem]; done))
        case rest =>
          obtain ⟨a, b, rfl, rfl, hkx, ha, hb', ⟨c0, c1, c2, c3, c4, c5, c6, c7, c8, c9, c10⟩, ⟨d0, d1⟩, ⟨e0, e1⟩, hbW2⟩ := hcut
          cases h1 : dueB t m
          · rw [if_pos (.inl h1)] at Hfin
            have H1 := Lib.hid h1
            clear h1
            go_wp2_with (go_at_call 82; refine (dueT_any t G S gc sc m _).mono ?_; rw [H1.out]; rintro e w' ⟨rfl, hb⟩)
            go_ret2
            exact ⟨by rw [Hfin.out]; rfl, (by repeat' (first | (with_reducible exact Below.refl _ _) | (with_reducible assumption) | (with_reducible refine Below.alloc ?_ ?_ _) | (with_reducible refine Below.drew ?_) | (with_reducible refine below_drewN ?_ _) | (with_reducible refine Below.setCell ?_ ?_ _) | (with_reducible refine below_up ?_ (by assumption)) | go_size))⟩
          · cases h2 : mayB t g1 s2
            · rw [if_pos (.inr h2)] at Hfin
              have H1 := Lib.hid h1
              have H2 := Lib.hid h2
              clear h1 h2
              go_wp2_with (first
                | (go_at_call 82; refine (dueT_any t G S gc sc m _).mono ?_; rw [H1.out]; rintro e w' ⟨rfl, hb⟩; obtain ⟨hc, hf⟩ := bcell hb; have hz := hb.size; have hv1 : k < w'.heap.size := (by omega); have hv2 : a < w'.heap.size := (by omega); have hv3 : b < w'.heap.size := (by omega))
                | (go_at_call 79; refine (mayT_any t G S gc sc _ _ _).mono ?_; rw [H2.out]; rintro e w' ⟨rfl, hb⟩; obtain ⟨hc, hf⟩ := bcell hb; have hz := hb.size; have hv1 : k < w'.heap.size := (by omega); have hv2 : a < w'.heap.size := (by omega); have hv3 : b < w'.heap.size := (by omega)))
              go_ret2
              exact ⟨by rw [Hfin.out]; rfl, (by repeat' (first | (with_reducible exact Below.refl _ _) | (with_reducible assumption) | (with_reducible refine Below.alloc ?_ ?_ _) | (with_reducible refine Below.drew ?_) | (with_reducible refine below_drewN ?_ _) | (with_reducible refine Below.setCell ?_ ?_ _) | (with_reducible refine below_up ?_ (by assumption)) | go_size))⟩
            · rw [if_neg (by simp [h1, h2])] at Hfin
              have H1 := Lib.hid h1
              have H2 := Lib.hid h2
              clear h1 h2
              by_cases hg : g1 = g2
              · subst hg
                by_cases hs : s2 = s1
                · subst hs
                  rw [if_neg (by simp)] at Hfin
                  have H3 := H2
                  go_wp2_with (first
                | (go_at_call 82; refine (dueT_any t G S gc sc m _).mono ?_; rw [H1.out]; rintro e w' ⟨rfl, hb⟩; obtain ⟨hc, hf⟩ := bcell hb; have hz := hb.size; have hv1 : k < w'.heap.size := (by omega); have hv2 : a < w'.heap.size := (by omega); have hv3 : b < w'.heap.size := (by omega))
                | (go_at_call 79; refine (mayT_any t G S gc sc _ _ _).mono ?_; (first | rw [H2.out] | rw [H3.out]); rintro e w' ⟨rfl, hb⟩; obtain ⟨hc, hf⟩ := bcell hb; have hz := hb.size; have hv1 : k < w'.heap.size := (by omega); have hv2 : a < w'.heap.size := (by omega); have hv3 : b < w'.heap.size := (by omega)))
                  go_ret2
                  exact ⟨by rw [Hfin.out]; rfl, (by repeat' (first | (with_reducible exact Below.refl _ _) | (with_reducible assumption) | (with_reducible refine Below.alloc ?_ ?_ _) | (with_reducible refine Below.drew ?_) | (with_reducible refine below_drewN ?_ _) | (with_reducible refine Below.setCell ?_ ?_ _) | (with_reducible refine below_up ?_ (by assumption)) | go_size))⟩
                · cases h3 : mayB t g1 s1
                  · rw [if_pos (by simp [hs, h3])] at Hfin
                    have H3 := Lib.hid h3
                    clear h3
                    go_wp2_with (first
                | (go_at_call 82; refine (dueT_any t G S gc sc m _).mono ?_; rw [H1.out]; rintro e w' ⟨rfl, hb⟩; obtain ⟨hc, hf⟩ := bcell hb; have hz := hb.size; have hv1 : k < w'.heap.size := (by omega); have hv2 : a < w'.heap.size := (by omega); have hv3 : b < w'.heap.size := (by omega))
                | (go_at_call 79; refine (mayT_any t G S gc sc _ _ _).mono ?_; (first | rw [H2.out] | rw [H3.out]); rintro e w' ⟨rfl, hb⟩; obtain ⟨hc, hf⟩ := bcell hb; have hz := hb.size; have hv1 : k < w'.heap.size := (by omega); have hv2 : a < w'.heap.size := (by omega); have hv3 : b < w'.heap.size := (by omega)))
                    go_ret2
                    exact ⟨by rw [Hfin.out]; rfl, (by repeat' (first | (with_reducible exact Below.refl _ _) | (with_reducible assumption) | (with_reducible refine Below.alloc ?_ ?_ _) | (with_reducible refine Below.drew ?_) | (with_reducible refine below_drewN ?_ _) | (with_reducible refine Below.setCell ?_ ?_ _) | (with_reducible refine below_up ?_ (by assumption)) | go_size))⟩
                  · rw [if_neg (by simp [h3])] at Hfin
                    have H3 := Lib.hid h3
                    clear h3
                    go_wp2_with (first
                | (go_at_call 82; refine (dueT_any t G S gc sc m _).mono ?_; rw [H1.out]; rintro e w' ⟨rfl, hb⟩; obtain ⟨hc, hf⟩ := bcell hb; have hz := hb.size; have hv1 : k < w'.heap.size := (by omega); have hv2 : a < w'.heap.size := (by omega); have hv3 : b < w'.heap.size := (by omega))
                | (go_at_call 79; refine (mayT_any t G S gc sc _ _ _).mono ?_; (first | rw [H2.out] | rw [H3.out]); rintro e w' ⟨rfl, hb⟩; obtain ⟨hc, hf⟩ := bcell hb; have hz := hb.size; have hv1 : k < w'.heap.size := (by omega); have hv2 : a < w'.heap.size := (by omega); have hv3 : b < w'.heap.size := (by omega)))
                    go_ret2
                    exact ⟨by rw [Hfin.out]; rfl, (by repeat' (first | (with_reducible exact Below.refl _ _) | (with_reducible assumption) | (with_reducible refine Below.alloc ?_ ?_ _) | (with_reducible refine Below.drew ?_) | (with_reducible refine below_drewN ?_ _) | (with_reducible refine Below.setCell ?_ ?_ _) | (with_reducible refine below_up ?_ (by assumption)) | go_size))⟩
              · cases h3 : mayB t g2 s1
                · rw [if_pos (by simp [hg, h3])] at Hfin
                  have H3 := Lib.hid h3
                  clear h3
                  go_wp2_with (first
                | (go_at_call 82; refine (dueT_any t G S gc sc m _).mono ?_; rw [H1.out]; rintro e w' ⟨rfl, hb⟩; obtain ⟨hc, hf⟩ := bcell hb; have hz := hb.size; have hv1 : k < w'.heap.size := (by omega); have hv2 : a < w'.heap.size := (by omega); have hv3 : b < w'.heap.size := (by omega))
                | (go_at_call 79; refine (mayT_any t G S gc sc _ _ _).mono ?_; (first | rw [H2.out] | rw [H3.out]); rintro e w' ⟨rfl, hb⟩; obtain ⟨hc, hf⟩ := bcell hb; have hz := hb.size; have hv1 : k < w'.heap.size := (by omega); have hv2 : a < w'.heap.size := (by omega); have hv3 : b < w'.heap.size := (by omega)))
                  go_ret2
                  exact ⟨by rw [Hfin.out]; rfl, (by repeat' (first | (with_reducible exact Below.refl _ _) | (with_reducible assumption) | (with_reducible refine Below.alloc ?_ ?_ _) | (with_reducible refine Below.drew ?_) | (with_reducible refine below_drewN ?_ _) | (with_reducible refine Below.setCell ?_ ?_ _) | (with_reducible refine below_up ?_ (by assumption)) | go_size))⟩
                · rw [if_neg (by simp [h3])] at Hfin
                  have H3 := Lib.hid h3
                  clear h3
                  go_wp2_with (first
                | (go_at_call 82; refine (dueT_any t G S gc sc m _).mono ?_; rw [H1.out]; rintro e w' ⟨rfl, hb⟩; obtain ⟨hc, hf⟩ := bcell hb; have hz := hb.size; have hv1 : k < w'.heap.size := (by omega); have hv2 : a < w'.heap.size := (by omega); have hv3 : b < w'.heap.size := (by omega))
                | (go_at_call 79; refine (mayT_any t G S gc sc _ _ _).mono ?_; (first | rw [H2.out] | rw [H3.out]); rintro e w' ⟨rfl, hb⟩; obtain ⟨hc, hf⟩ := bcell hb; have hz := hb.size; have hv1 : k < w'.heap.size := (by omega); have hv2 : a < w'.heap.size := (by omega); have hv3 : b < w'.heap.size := (by omega)))
                  go_ret2
                  exact ⟨by rw [Hfin.out]; rfl, (by repeat' (first | (with_reducible exact Below.refl _ _) | (with_reducible assumption) | (with_reducible refine Below.alloc ?_ ?_ _) | (with_reducible refine Below.drew ?_) | (with_reducible refine below_drewN ?_ _) | (with_reducible refine Below.setCell ?_ ?_ _) | (with_reducible refine below_up ?_ (by assumption)) | go_size))⟩
end Go.Proofs.YtppejcmjjjfamaaDoor
