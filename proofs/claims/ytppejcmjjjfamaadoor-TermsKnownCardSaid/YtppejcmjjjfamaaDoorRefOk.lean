/- middlingref04.Terms: whether terms are valid. -/
import Derived.Test.YtppejcmjjjfamaaDoorRefTerms
import Derived.Deep.DeepCutAuto
import Derived.Deep.RegionWith
import Derived.Deep.QuietTactic
import Derived.BigQuiet
namespace Go.Proofs.YtppejcmjjjfamaaDoor
open Go.RowKit

def r1B (t : TT) : Bool := inB 1 9 t.bg && (inB 1 9 t.bs && (inB 1 1000000 t.price && (nineB t.grades && nineB t.staples)))
/-- both tables go their way at the places from 1 to below k -/
def wayTo (t : TT) (k : Nat) : Prop := ∀ j, 1 ≤ j → j < k → stepB t.grades (-1) j = true ∧ stepB t.staples 1 j = true
def r2B (t : TT) : Bool := (List.range 9).all fun j => j == 0 || (stepB t.grades (-1) j && stepB t.staples 1 j)
theorem r2B_true {t : TT} (h : wayTo t 9) : r2B t = true := by
  simp only [r2B, List.all_eq_true, List.mem_range, Bool.or_eq_true, Bool.and_eq_true, beq_iff_eq]
  intro j hj
  by_cases e : j = 0
  · exact .inl e
  · exact .inr (h j (by omega) hj)
theorem r2B_false {t : TT} {k : Nat} (hk : 1 ≤ k) (h9 : k < 9) (h : stepB t.grades (-1) k = false ∨ stepB t.staples 1 k = false) : r2B t = false := by
  simp only [r2B, List.all_eq_false, List.mem_range]
  refine ⟨k, h9, ?_⟩
  have : (k == 0) = false := by simp; omega
  rcases h with h | h <;> simp [this, h]
def r4B (t : TT) : Bool := inB 0 60 t.dlo && (inB t.dlo 60 t.dhi && (inB 1 20 t.bales && inB 0 1000 t.fee))
def refT (t : TT) : Bool := r1B t && (r2B t && (ck3B t && (r4B t && ck5B t)))

set_option maxRecDepth 100000 in
set_option maxHeartbeats 4000000 in
theorem termsR_no (t : TT) (G S : Option Addr) (gc sc : Nat) (w : World) (hT : TermsA w G S t) (h1 : r1B t = false) :
    Calls Tryd.prog 81 #[.agg #[.int .i64 t.bg, .int .i64 t.bs, .int .i64 t.price, .int .i64 t.worst, .int .i64 t.short, .slice G t.grades.length gc, .slice S t.staples.length sc, .int .i64 t.dlo, .int .i64 t.dhi, .int .i64 t.bales, .int .i64 t.fee]] w fun e w' => e = .returned (.bool false) ∧ Below w.heap.size w w' := by
  have HT1 := Lib.hid (hT.below ((Below.refl _ _).alloc (Nat.le_refl _) (.cells #[.int .i64 t.bg, .int .i64 t.bs, .int .i64 t.price, .int .i64 t.worst, .int .i64 t.short, .slice G t.grades.length gc, .slice S t.staples.length sc, .int .i64 t.dlo, .int .i64 t.dhi, .int .i64 t.bales, .int .i64 t.fee] 28)))
  have H1 := Lib.hid h1
  clear hT h1
  go_enter Tryd.func81, Tryd.ntmps81
  go_wp2_with (first
    | (go_at_call 76; refine (withinR_any _ _ _ _).mono ?_; rintro e w' ⟨rfl, rfl⟩)
    | (go_at_call_of 114 (Value.slice G t.grades.length gc); refine (nineR_any t.grades G gc _ HT1.out.1 HT1.out.2.2.1).mono ?_; rintro e w' ⟨rfl, rfl⟩)
    | (go_at_call_of 114 (Value.slice S t.staples.length sc); refine (nineR_any t.staples S sc _ HT1.out.2.1 HT1.out.2.2.2).mono ?_; rintro e w' ⟨rfl, rfl⟩))
  all_goals try (go_ret; exact ⟨rfl, (by repeat' (first | (with_reducible exact Below.refl _ _) | (with_reducible assumption) | (with_reducible refine Below.alloc ?_ ?_ _) | (with_reducible refine Below.drew ?_) | (with_reducible refine below_drewN ?_ _) | (with_reducible refine Below.setCell ?_ ?_ _) | (with_reducible refine below_up ?_ (by assumption)) | go_size))⟩)
  have e5 : nineB t.staples = true := by simpa using ‹(!nineB t.staples) = false›
  have := H1.out
  simp [r1B, *] at this

set_option maxRecDepth 100000 in
set_option maxHeartbeats 4000000 in
theorem termsR_ref (t : TT) (G S : Option Addr) (gc sc : Nat) (w : World) (hT : TermsA w G S t) :
    Calls Tryd.prog 81 #[.agg #[.int .i64 t.bg, .int .i64 t.bs, .int .i64 t.price, .int .i64 t.worst, .int .i64 t.short, .slice G t.grades.length gc, .slice S t.staples.length sc, .int .i64 t.dlo, .int .i64 t.dhi, .int .i64 t.bales, .int .i64 t.fee]] w fun e w' => e = .returned (.bool (refT t)) ∧ Below w.heap.size w w' := by
  cases h1 : r1B t
  · have e : refT t = false := by simp [refT, h1]
    rw [e]
    exact termsR_no t G S gc sc w hT h1
  have HT := Lib.hid hT
  have HT1 := Lib.hid (hT.below ((Below.refl _ _).alloc (Nat.le_refl _) (.cells #[.int .i64 t.bg, .int .i64 t.bs, .int .i64 t.price, .int .i64 t.worst, .int .i64 t.short, .slice G t.grades.length gc, .slice S t.staples.length sc, .int .i64 t.dlo, .int .i64 t.dhi, .int .i64 t.bales, .int .i64 t.fee] 28)))
  have hb : (1 ≤ t.bg ∧ t.bg ≤ 9) ∧ (1 ≤ t.bs ∧ t.bs ≤ 9) := by simp [r1B, inB_true] at h1; omega
  have ht : tabs t := by
    have h1 := h1
    simp only [r1B, nineB, Bool.and_eq_true, inB_true, decide_eq_true_eq] at h1
    obtain ⟨_, _, p, ⟨a1, a2⟩, b1, b2⟩ := h1
    exact ⟨p, a1, b1, fun i hi => allB_true.1 a2 i (by omega), fun i hi => allB_true.1 b2 i (by omega)⟩
  have h1' := h1
  simp only [r1B, Bool.and_eq_true] at h1'
  have A1 := Lib.hid h1'.1
  have A2 := Lib.hid h1'.2.1
  have A3 := Lib.hid h1'.2.2.1
  have A4 := Lib.hid h1'.2.2.2.1
  have A5 := Lib.hid h1'.2.2.2.2
  have H1 := Lib.hid h1
  have HB := Lib.hid hb
  have Ht := Lib.hid ht
  clear h1 hb ht hT h1'
  go_enter Tryd.func81, Tryd.ntmps81
  go_wp2_with (first
    | (go_at_call 76; refine (withinR_any _ _ _ _).mono ?_; (first | rw [A1.out] | rw [A2.out] | rw [A3.out]); rintro e w' ⟨rfl, rfl⟩)
    | (go_at_call_of 114 (Value.slice G t.grades.length gc); refine (nineR_any t.grades G gc _ HT1.out.1 HT1.out.2.2.1).mono ?_; rw [A4.out]; rintro e w' ⟨rfl, rfl⟩)
    | (go_at_call_of 114 (Value.slice S t.staples.length sc); refine (nineR_any t.staples S sc _ HT1.out.2.1 HT1.out.2.2.2).mono ?_; rw [A5.out]; rintro e w' ⟨rfl, rfl⟩))
  clear HT1 A1 A2 A3 A4 A5
  go_loopw [3] (fun i wr => ∃ k : Nat, 1 ≤ k ∧ k ≤ 9 ∧ i = .int .i64 k ∧ Hid (wayTo t k) ∧ (wr.cell? ⟨w.heap.size, 0, none⟩ = some (.int .i64 t.bg) ∧ wr.cell? ⟨w.heap.size, 1, none⟩ = some (.int .i64 t.bs) ∧ wr.cell? ⟨w.heap.size, 2, none⟩ = some (.int .i64 t.price) ∧ wr.cell? ⟨w.heap.size, 3, none⟩ = some (.int .i64 t.worst) ∧ wr.cell? ⟨w.heap.size, 4, none⟩ = some (.int .i64 t.short) ∧ wr.cell? ⟨w.heap.size, 5, none⟩ = some (.slice G t.grades.length gc) ∧ wr.cell? ⟨w.heap.size, 6, none⟩ = some (.slice S t.staples.length sc) ∧ wr.cell? ⟨w.heap.size, 7, none⟩ = some (.int .i64 t.dlo) ∧ wr.cell? ⟨w.heap.size, 8, none⟩ = some (.int .i64 t.dhi) ∧ wr.cell? ⟨w.heap.size, 9, none⟩ = some (.int .i64 t.bales) ∧ wr.cell? ⟨w.heap.size, 10, none⟩ = some (.int .i64 t.fee)) ∧ w.heap.size < wr.heap.size ∧ Below w.heap.size w wr) (fun i _ => 9 - (intOf i).toNat)
  case atStart => exact ⟨1, by omega, by omega, rfl, fun j h1 h2 => by omega, ⟨by simp [go_sem], by simp [go_sem], by simp [go_sem], by simp [go_sem], by simp [go_sem], by simp [go_sem], by simp [go_sem], by simp [go_sem], by simp [go_sem], by simp [go_sem], by simp [go_sem]⟩, by simp, (by repeat' (first | (with_reducible exact Below.refl _ _) | (with_reducible assumption) | (with_reducible refine Below.alloc ?_ ?_ _) | (with_reducible refine Below.drew ?_) | (with_reducible refine below_drewN ?_ _) | (with_reducible refine Below.setCell ?_ ?_ _) | (with_reducible refine below_up ?_ (by assumption)) | go_size))⟩
  case round =>
    obtain ⟨k, hk1, hk9, rfl, hway, ⟨c0, c1, c2, c3, c4, c5, c6, c7, c8, c9, c10⟩, hsz, hbr⟩ := hrel
    by_cases hlt : k < 9
    · have hT' := HT.out.below hbr
      have l1 : (k : Int) < t.grades.length := by have := Ht.out.2.1; omega
      have l2 : (k : Int) < t.staples.length := by have := Ht.out.2.2.1; omega
      have l3 : (k : Int) - 1 < t.grades.length := by omega
      have l4 : (k : Int) - 1 < t.staples.length := by omega
      have l5 : 0 ≤ (k : Int) - 1 := by omega
      have l6 : k < t.grades.length := by omega
      have l7 : k < t.staples.length := by omega
      have l8 : k - 1 < t.grades.length := by omega
      have l9 : k - 1 < t.staples.length := by omega
      obtain ⟨bg, og, eG, hbg, hcg⟩ := hT'.1 (by omega)
      obtain ⟨bs, os, eS, hbs, hcs⟩ := hT'.2.1 (by omega)
      have m1 := hcg k (by omega)
      have m0 := hcg (k - 1) (by omega)
      have n1 := hcs k (by omega)
      have n0 := hcs (k - 1) (by omega)
      have hs1 := stepB_pos (zs := t.grades) (up := -1) hk1
      have hs2 := stepB_pos (zs := t.staples) (up := 1) hk1
      have hkk : IntKind.i64.wrap ((k : Int) - 1) = (k : Int) - 1 := IntWalk.i64_in _ (by omega)
      have hkt : ((k : Int) - 1).toNat = k - 1 := by omega
      subst eG eS
      generalize nth t.grades k = x1 at *
      generalize nth t.grades (k - 1) = x0 at *
      generalize nth t.staples k = y1 at *
      generalize nth t.staples (k - 1) = y0 at *
      clear hcg hcs hT'
      by_cases hx : x0 < x1
      · have hx' : decide (x0 < x1) = true := by simp [hx]
        have hst : stepB t.grades (-1) k = false := by rw [hs1]; simp; omega
        have Hf := Lib.hid (show refT t = false by simp [refT, r2B_false hk1 hlt (.inl hst)])
        clear hs1 hs2 hst hway
        go_wp2
        go_quiet (fail)
        clear hkk hkt
        go_wp2
        go_ret
        exact ⟨ret_bool Hf.out.symm, (by repeat' (first | (with_reducible exact Below.refl _ _) | (with_reducible assumption) | (with_reducible refine Below.alloc ?_ ?_ _) | (with_reducible refine Below.drew ?_) | (with_reducible refine below_drewN ?_ _) | (with_reducible refine Below.setCell ?_ ?_ _) | (with_reducible refine below_up ?_ (by assumption)) | go_size))⟩
      · have hx' : decide (x0 < x1) = false := by simp [hx]
        by_cases hy : y1 < y0
        · have hy' : decide (y1 < y0) = true := by simp [hy]
          have hst : stepB t.staples 1 k = false := by rw [hs2]; simp; omega
          have Hf := Lib.hid (show refT t = false by simp [refT, r2B_false hk1 hlt (.inr hst)])
          clear hs1 hs2 hst hway
          go_wp2
          go_quiet (fail)
          clear hkk hkt
          go_wp2
          go_ret
          exact ⟨ret_bool Hf.out.symm, (by repeat' (first | (with_reducible exact Below.refl _ _) | (with_reducible assumption) | (with_reducible refine Below.alloc ?_ ?_ _) | (with_reducible refine Below.drew ?_) | (with_reducible refine below_drewN ?_ _) | (with_reducible refine Below.setCell ?_ ?_ _) | (with_reducible refine below_up ?_ (by assumption)) | go_size))⟩
        · have hy' : decide (y1 < y0) = false := by simp [hy]
          have hst1 : stepB t.grades (-1) k = true := by rw [hs1]; simp; omega
          have hst2 : stepB t.staples 1 k = true := by rw [hs2]; simp; omega
          have hw' := Lib.hid (show wayTo t (k + 1) from fun j h1 h2 => by
            by_cases e : j = k
            · subst e; exact ⟨hst1, hst2⟩
            · exact hway.out j h1 (by omega))
          clear hs1 hs2 hst1 hst2 hway
          go_wp2
          go_quiet (fail)
          clear hkk hkt
          go_wp2
          go_roundw
          case rel => exact ⟨k + 1, by omega, by omega, by go_num, hw'.out, ⟨c0, c1, c2, c3, c4, c5, c6, c7, c8, c9, c10⟩, hsz, (by repeat' (first | (with_reducible exact Below.refl _ _) | (with_reducible assumption) | (with_reducible refine Below.alloc ?_ ?_ _) | (with_reducible refine Below.drew ?_) | (with_reducible refine below_drewN ?_ _) | (with_reducible refine Below.setCell ?_ ?_ _) | (with_reducible refine below_up ?_ (by assumption)) | go_size))⟩
          case measure => simp [intOf]; omega
    · have : k = 9 := by omega
      subst this
      have h2 := Lib.hid (r2B_true hway.out)
      clear hway
      have Hfin1 := Lib.hid (show refT t = (ck3B t && (r4B t && ck5B t)) by simp [refT, H1.out, h2.out])
      have hT' := HT.out.below hbr
      obtain ⟨⟨g1, g2⟩, s1, s2⟩ := HB.out
      obtain ⟨bg, og, eG, hbg, hcg⟩ := hT'.1.tab Ht.out.2.1 g1 g2
      obtain ⟨bs, os, eS, hbs, hcs⟩ := hT'.2.1.tab Ht.out.2.2.1 s1 s2
      have lg : t.bg - 1 < t.grades.length := by have := Ht.out.2.1; omega
      have ls : t.bs - 1 < t.staples.length := by have := Ht.out.2.2.1; omega
      have g0 : 0 ≤ t.bg - 1 := by omega
      have s0 : 0 ≤ t.bs - 1 := by omega
      have k1 : IntKind.i64.wrap (t.bg - 1) = t.bg - 1 := IntWalk.i64_in _ (by omega)
      have k2 : IntKind.i64.wrap (t.bs - 1) = t.bs - 1 := IntWalk.i64_in _ (by omega)
      have HV := Lib.hid (fun W (hW : Below w.heap.size w W) (h3 : ck3B t = true) => valueR_any t G S gc sc t.worst t.short W (HT.out.below hW) Ht.out (by simp [ck3B, inB_true] at h3; omega) (by simp [ck3B, inB_true] at h3; omega))
      have H3d := Lib.hid (show ck3B t = (tabAt t.grades t.bg == 0 && tabAt t.staples t.bs == 0 && inB t.bg 9 t.worst && inB 1 t.bs t.short) from rfl)
      subst eG eS
      clear hT'
      generalize tabAt t.grades t.bg = x at *
      generalize tabAt t.staples t.bs = y at *
      cases hx : (x == 0)
      · have hx' : (x != 0) = true := by simpa using hx
        have Hf := Lib.hid (show refT t = false by rw [Hfin1.out, H3d.out, hx]; rfl)
        clear hx
        go_wp2_with fail
        go_ret
        exact ⟨ret_bool Hf.out.symm, hbr⟩
      · have hx' : (x != 0) = false := by simpa using hx
        cases hy : (y == 0)
        · have hy' : (y != 0) = true := by simpa using hy
          have Hf := Lib.hid (show refT t = false by rw [Hfin1.out, H3d.out, hx, hy]; rfl)
          clear hx hy
          go_wp2_with fail
          go_ret
          exact ⟨ret_bool Hf.out.symm, hbr⟩
        · have hy' : (y != 0) = false := by simpa using hy
          cases h3 : (inB t.bg 9 t.worst && inB 1 t.bs t.short)
          · have Hf := Lib.hid (show refT t = false by rw [Hfin1.out, H3d.out, hx, hy, Bool.true_and, Bool.true_and, h3]; rfl)
            have H3 := Lib.hid h3
            clear hx hy h3
            cases h4 : inB t.bg 9 t.worst
            · have H4 := Lib.hid h4
              clear h4
              go_wp2_with (go_at_call 76; refine (withinR_any _ _ _ _).mono ?_; rw [H4.out]; rintro e w' ⟨rfl, rfl⟩)
              go_ret
              exact ⟨ret_bool Hf.out.symm, hbr⟩
            · have H5 := Lib.hid (show inB 1 t.bs t.short = false by simpa [h4] using H3.out)
              have H4 := Lib.hid h4
              clear h4
              go_wp2_with (go_at_call 76; refine (withinR_any _ _ _ _).mono ?_; (first | rw [H4.out] | rw [H5.out]); rintro e w' ⟨rfl, rfl⟩)
              go_ret
              exact ⟨ret_bool Hf.out.symm, hbr⟩
          · have hck := (show ck3B t = true by rw [H3d.out, hx, hy, Bool.true_and, Bool.true_and, h3])
            have Hf := Lib.hid (show refT t = (r4B t && ck5B t) by rw [Hfin1.out, hck]; rfl)
            simp only [Bool.and_eq_true] at h3
            have H4 := Lib.hid h3.1
            have H5 := Lib.hid h3.2
            have HV2 := Lib.hid (fun W hW => HV.out W hW hck)
            clear hx hy h3 hck HV
            go_upto_region 10 with (go_at_call 76; refine (withinR_any _ _ _ _).mono ?_; (first | rw [H4.out] | rw [H5.out]); rintro e w' ⟨rfl, rfl⟩)
            clear hx' hy'
            cases q1 : inB 0 60 t.dlo
            · have Hr := Lib.hid (show r4B t = false by simp [r4B, q1])
              have Q1 := Lib.hid q1
              clear q1
              go_wp2_with (go_at_call 76; refine (withinR_any _ _ _ _).mono ?_; (first | rw [Q1.out]); rintro e w' ⟨rfl, rfl⟩)
              go_ret
              exact ⟨ret_bool (by rw [Hf.out, Hr.out]; rfl), hbr⟩
            · cases q2 : inB t.dlo 60 t.dhi
              · have Hr := Lib.hid (show r4B t = false by simp [r4B, q1, q2])
                have Q1 := Lib.hid q1
                have Q2 := Lib.hid q2
                clear q1 q2
                go_wp2_with (go_at_call 76; refine (withinR_any _ _ _ _).mono ?_; (first | rw [Q1.out] | rw [Q2.out]); rintro e w' ⟨rfl, rfl⟩)
                go_ret
                exact ⟨ret_bool (by rw [Hf.out, Hr.out]; rfl), hbr⟩
              · cases q3 : inB 1 20 t.bales
                · have Hr := Lib.hid (show r4B t = false by simp [r4B, q1, q2, q3])
                  have Q1 := Lib.hid q1
                  have Q2 := Lib.hid q2
                  have Q3 := Lib.hid q3
                  clear q1 q2 q3
                  go_wp2_with (go_at_call 76; refine (withinR_any _ _ _ _).mono ?_; (first | rw [Q1.out] | rw [Q2.out] | rw [Q3.out]); rintro e w' ⟨rfl, rfl⟩)
                  go_ret
                  exact ⟨ret_bool (by rw [Hf.out, Hr.out]; rfl), hbr⟩
                · cases q4 : inB 0 1000 t.fee
                  · have Hr := Lib.hid (show r4B t = false by simp [r4B, q1, q2, q3, q4])
                    have Q1 := Lib.hid q1
                    have Q2 := Lib.hid q2
                    have Q3 := Lib.hid q3
                    have Q4 := Lib.hid q4
                    clear q1 q2 q3 q4
                    go_wp2_with (go_at_call 76; refine (withinR_any _ _ _ _).mono ?_; (first | rw [Q1.out] | rw [Q2.out] | rw [Q3.out] | rw [Q4.out]); rintro e w' ⟨rfl, rfl⟩)
                    go_ret
                    exact ⟨ret_bool (by rw [Hf.out, Hr.out]; rfl), hbr⟩
                  · have Hr := Lib.hid (show r4B t = true by simp [r4B, q1, q2, q3, q4])
                    have Q1 := Lib.hid q1
                    have Q2 := Lib.hid q2
                    have Q3 := Lib.hid q3
                    have Q4 := Lib.hid q4
                    clear q1 q2 q3 q4
                    go_wp2_with (first | (go_at_call 76; refine (withinR_any _ _ _ _).mono ?_; (first | rw [Q1.out] | rw [Q2.out] | rw [Q3.out] | rw [Q4.out]); rintro e w' ⟨rfl, rfl⟩) | (go_at_call 73; refine (HV2.out _ hbr).mono ?_; rintro e w' ⟨rfl, hb⟩))
                    go_ret
                    exact ⟨ret_bool (by rw [Hf.out, Hr.out]; rfl), (by repeat' (first | (with_reducible exact Below.refl _ _) | (with_reducible assumption) | (with_reducible refine Below.alloc ?_ ?_ _) | (with_reducible refine Below.drew ?_) | (with_reducible refine below_drewN ?_ _) | (with_reducible refine Below.setCell ?_ ?_ _) | (with_reducible refine below_up ?_ (by assumption)) | go_size))⟩
end Go.Proofs.YtppejcmjjjfamaaDoor
