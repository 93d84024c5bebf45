/- middlingref04: spanned, spans, Known. -/
import Derived.Test.YtppejcmjjjfamaaDoorRangePlain
import Derived.Test.YtppejcmjjjfamaaDoorRefTells
namespace Go.Proofs.YtppejcmjjjfamaaDoor
open Go.RowKit

set_option maxHeartbeats 400000 in
theorem spannedR_any (a b : Int) (w : World) : Calls Tryd.prog 108 #[.agg #[.int .i64 a, .int .i64 b]] w fun e w' => e = .returned (.bool (spanB 1 9 a b)) ∧ Below w.heap.size w w' := by
  cases h1 : inB 1 9 a
  · have Hf := Lib.hid (show spanB 1 9 a b = false by simp [spanB, h1])
    have H1 := Lib.hid h1
    clear h1
    go_enter Tryd.func108, Tryd.ntmps108
    go_wp2_with (go_at_call 76; refine (withinR_any _ _ _ _).mono ?_; rw [H1.out]; rintro e w' ⟨rfl, rfl⟩)
    go_ret
    exact ⟨ret_bool Hf.out.symm, (by repeat' (first | (with_reducible exact Below.refl _ _) | (with_reducible assumption) | (with_reducible refine Below.alloc ?_ ?_ _) | (with_reducible refine Below.drew ?_) | (with_reducible refine below_drewN ?_ _) | (with_reducible refine Below.setCell ?_ ?_ _) | (with_reducible refine below_up ?_ (by assumption)) | go_size))⟩
  · have Hf := Lib.hid (show spanB 1 9 a b = inB a 9 b by
      have := inB_true.1 h1
      rw [Bool.eq_iff_iff, spanB_true, inB_true]; omega)
    have H1 := Lib.hid h1
    clear h1
    go_enter Tryd.func108, Tryd.ntmps108
    go_wp2_with fail
    refine (withinR_any _ _ _ _).mono ?_
    rw [H1.out]
    rintro e w' ⟨rfl, rfl⟩
    go_wp2_with fail
    refine (withinR_any _ _ _ _).mono ?_
    rintro e w' ⟨rfl, rfl⟩
    go_wp2_with fail
    go_ret
    exact ⟨ret_bool Hf.out.symm, (by repeat' (first | (with_reducible exact Below.refl _ _) | (with_reducible assumption) | (with_reducible refine Below.alloc ?_ ?_ _) | (with_reducible refine Below.drew ?_) | (with_reducible refine below_drewN ?_ _) | (with_reducible refine Below.setCell ?_ ?_ _) | (with_reducible refine below_up ?_ (by assumption)) | go_size))⟩

set_option maxHeartbeats 400000 in
theorem spansR_any (t : TT) (G S : Option Addr) (gc sc : Nat) (a b c d : Int) (w : World) (hT : TermsA w G S t) :
    Calls Tryd.prog 93 #[.agg #[.int .i64 t.bg, .int .i64 t.bs, .int .i64 t.price, .int .i64 t.worst, .int .i64 t.short, .slice G t.grades.length gc, .slice S t.staples.length sc, .int .i64 t.dlo, .int .i64 t.dhi, .int .i64 t.bales, .int .i64 t.fee], .agg #[.int .i64 a, .int .i64 b], .agg #[.int .i64 c, .int .i64 d]] w fun e w' => e = .returned (.int .i64 (err1 t a b c d)) ∧ Below w.heap.size w w' := by
  have HC := Lib.hid (fun W (hW : Below w.heap.size w W) => termsR_any t G S gc sc W (hT.below hW))
  have hE : err1 t a b c d = if okT t = false then 40 else if spanB 1 9 a b = false then 41 else if spanB 1 9 c d = false then 42 else 0 := by
    simp only [err1, errO, errR, errT, orI, List.any_cons, List.any_nil, Bool.or_false, badSpan]
    cases okT t <;> cases spanB 1 9 a b <;> cases spanB 1 9 c d <;> simp
  clear hT
  cases h : okT t
  · have Hf := Lib.hid (show err1 t a b c d = 40 by rw [hE, if_pos h])
    have H := Lib.hid h
    clear h hE
    go_enter Tryd.func93, Tryd.ntmps93
    go_wp2_with (go_at_call 81; refine (HC.out _ (by repeat' (first | (with_reducible exact Below.refl _ _) | (with_reducible assumption) | (with_reducible refine Below.alloc ?_ ?_ _) | (with_reducible refine Below.drew ?_) | (with_reducible refine below_drewN ?_ _) | (with_reducible refine Below.setCell ?_ ?_ _) | (with_reducible refine below_up ?_ (by assumption)) | go_size))).mono ?_; rw [H.out]; rintro e w' ⟨rfl, hb⟩)
    go_ret
    exact ⟨ret_int Hf.out.symm, (by repeat' (first | (with_reducible exact Below.refl _ _) | (with_reducible assumption) | (with_reducible refine Below.alloc ?_ ?_ _) | (with_reducible refine Below.drew ?_) | (with_reducible refine below_drewN ?_ _) | (with_reducible refine Below.setCell ?_ ?_ _) | (with_reducible refine below_up ?_ (by assumption)) | go_size))⟩
  · cases h1 : spanB 1 9 a b
    · have Hf := Lib.hid (show err1 t a b c d = 41 by rw [hE, if_neg (by simp [h]), if_pos h1])
      have H := Lib.hid h
      have H1 := Lib.hid h1
      clear h hE h1
      go_enter Tryd.func93, Tryd.ntmps93
      go_wp2_with (go_at_call 81; refine (HC.out _ (by repeat' (first | (with_reducible exact Below.refl _ _) | (with_reducible assumption) | (with_reducible refine Below.alloc ?_ ?_ _) | (with_reducible refine Below.drew ?_) | (with_reducible refine below_drewN ?_ _) | (with_reducible refine Below.setCell ?_ ?_ _) | (with_reducible refine below_up ?_ (by assumption)) | go_size))).mono ?_; rw [H.out]; rintro e w' ⟨rfl, hb⟩; obtain ⟨hc, hf⟩ := bcell hb; have hz := (hb).size; (try simp at hz); have hz2 : w.heap.size < (w').heap.size := (by omega); (try have hq1 : w.heap.size + 1 < (w').heap.size := (by omega)); (try have hq2 : w.heap.size + 1 + 1 < (w').heap.size := (by omega)); (try have hq3 : w.heap.size + 1 + 1 + 1 < (w').heap.size := (by omega)))
      refine (spannedR_any _ _ _).mono ?_
      rw [H1.out]
      rintro e w2 ⟨rfl, hb2⟩
      go_wp2_with fail
      go_ret
      exact ⟨ret_int Hf.out.symm, (by repeat' (first | (with_reducible exact Below.refl _ _) | (with_reducible assumption) | (with_reducible refine Below.alloc ?_ ?_ _) | (with_reducible refine Below.drew ?_) | (with_reducible refine below_drewN ?_ _) | (with_reducible refine Below.setCell ?_ ?_ _) | (with_reducible refine below_up ?_ (by assumption)) | go_size))⟩
    · have Hf := Lib.hid (show err1 t a b c d = if spanB 1 9 c d = false then 42 else 0 by rw [hE, if_neg (by simp [h]), if_neg (by simp [h1])])
      have H := Lib.hid h
      have H1 := Lib.hid h1
      clear h hE h1
      go_enter Tryd.func93, Tryd.ntmps93
      go_wp2_with (go_at_call 81; refine (HC.out _ (by repeat' (first | (with_reducible exact Below.refl _ _) | (with_reducible assumption) | (with_reducible refine Below.alloc ?_ ?_ _) | (with_reducible refine Below.drew ?_) | (with_reducible refine below_drewN ?_ _) | (with_reducible refine Below.setCell ?_ ?_ _) | (with_reducible refine below_up ?_ (by assumption)) | go_size))).mono ?_; rw [H.out]; rintro e w' ⟨rfl, hb⟩; obtain ⟨hc, hf⟩ := bcell hb; have hz := (hb).size; (try simp at hz); have hz2 : w.heap.size < (w').heap.size := (by omega); (try have hq1 : w.heap.size + 1 < (w').heap.size := (by omega)); (try have hq2 : w.heap.size + 1 + 1 < (w').heap.size := (by omega)); (try have hq3 : w.heap.size + 1 + 1 + 1 < (w').heap.size := (by omega)))
      refine (spannedR_any _ _ _).mono ?_
      rw [H1.out]
      rintro e w2 ⟨rfl, hb2⟩
      obtain ⟨hc, hf⟩ := bcell hb2; have hz := (hb2).size; (try simp at hz); have hz2 : w.heap.size < (w2).heap.size := (by omega); (try have hq1 : w.heap.size + 1 < (w2).heap.size := (by omega)); (try have hq2 : w.heap.size + 1 + 1 < (w2).heap.size := (by omega)); (try have hq3 : w.heap.size + 1 + 1 + 1 < (w2).heap.size := (by omega))
      go_wp2_with fail
      refine (spannedR_any _ _ _).mono ?_
      rintro e w3 ⟨rfl, hb3⟩
      cases h2 : spanB 1 9 c d
      · rw [h2] at Hf
        go_wp2_with fail
        go_ret
        exact ⟨ret_int Hf.out.symm, (by repeat' (first | (with_reducible exact Below.refl _ _) | (with_reducible assumption) | (with_reducible refine Below.alloc ?_ ?_ _) | (with_reducible refine Below.drew ?_) | (with_reducible refine below_drewN ?_ _) | (with_reducible refine Below.setCell ?_ ?_ _) | (with_reducible refine below_up ?_ (by assumption)) | go_size))⟩
      · rw [h2] at Hf
        go_wp2_with fail
        go_ret
        exact ⟨ret_int Hf.out.symm, (by repeat' (first | (with_reducible exact Below.refl _ _) | (with_reducible assumption) | (with_reducible refine Below.alloc ?_ ?_ _) | (with_reducible refine Below.drew ?_) | (with_reducible refine below_drewN ?_ _) | (with_reducible refine Below.setCell ?_ ?_ _) | (with_reducible refine below_up ?_ (by assumption)) | go_size))⟩

theorem rows_any_snoc (f : Int × Int → Bool) (A B : List (Int × Int)) (x : Int × Int) : (A ++ (B ++ [x])).any f = ((A ++ B).any f || f x) := by simp [Bool.or_assoc]
theorem rows_all_snoc (f : Int × Int → Bool) (A B : List (Int × Int)) (x : Int × Int) : (A ++ (B ++ [x])).all f = ((A ++ B).all f && f x) := by simp [Bool.and_assoc]

set_option maxRecDepth 100000 in
set_option maxHeartbeats 2000000 in
theorem knownR_any (t : TT) (G S : Option Addr) (gc sc : Nat) (a b c d m : Int) (w : World) (hT : TermsA w G S t) :
    Calls Tryd.prog 38 #[.agg #[.int .i64 t.bg, .int .i64 t.bs, .int .i64 t.price, .int .i64 t.worst, .int .i64 t.short, .slice G t.grades.length gc, .slice S t.staples.length sc, .int .i64 t.dlo, .int .i64 t.dhi, .int .i64 t.bales, .int .i64 t.fee], .agg #[.int .i64 a, .int .i64 b], .agg #[.int .i64 c, .int .i64 d], .int .i64 m] w fun e w' => e = .returned (.tuple #[.int .u8 (knownP t a b c d m).1, .int .i64 (knownP t a b c d m).2]) ∧ Below w.heap.size w w' := by
  have HC := Lib.hid (fun W (hW : Below w.heap.size w W) => spansR_any t G S gc sc a b c d W (hT.below hW))
  clear hT
  by_cases h : err1 t a b c d = 0
  · have h' : (err1 t a b c d != 0) = false := by simp [h]
    obtain ⟨hok, ⟨a1, a2, a3⟩, c1, c2, c3⟩ := err1_zero h
    have HE := Lib.hid h
    cases hm : inB 0 60 m
    · have Hf := Lib.hid (show knownP t a b c d m = (0, 44) by unfold knownP; rw [if_neg (by simp [h]), if_pos hm])
      have HM := Lib.hid hm
      clear h hm hok
      go_enter Tryd.func38, Tryd.ntmps38
      go_wp2_with (first | (go_at_call 93; refine (HC.out _ (by repeat' (first | (with_reducible exact Below.refl _ _) | (with_reducible assumption) | (with_reducible refine Below.alloc ?_ ?_ _) | (with_reducible refine Below.drew ?_) | (with_reducible refine below_drewN ?_ _) | (with_reducible refine Below.setCell ?_ ?_ _) | (with_reducible refine below_up ?_ (by assumption)) | go_size))).mono ?_; rintro e w' ⟨rfl, hb⟩; obtain ⟨hc, hf⟩ := bcell hb; have hz := (hb).size; (try simp at hz); have hz2 : w.heap.size < (w').heap.size := (by omega); (try have hq1 : w.heap.size + 1 < (w').heap.size := (by omega)); (try have hq2 : w.heap.size + 1 + 1 < (w').heap.size := (by omega)); (try have hq3 : w.heap.size + 1 + 1 + 1 < (w').heap.size := (by omega))) | (go_at_call 76; refine (withinR_any _ _ _ _).mono ?_; rw [HM.out]; rintro e w' ⟨rfl, rfl⟩))
      go_ret2
      exact ⟨by rw [Hf.out]; rfl, (by repeat' (first | (with_reducible exact Below.refl _ _) | (with_reducible assumption) | (with_reducible refine Below.alloc ?_ ?_ _) | (with_reducible refine Below.drew ?_) | (with_reducible refine below_drewN ?_ _) | (with_reducible refine Below.setCell ?_ ?_ _) | (with_reducible refine below_up ?_ (by assumption)) | go_size))⟩
    · have Hf := Lib.hid (known_of h hm)
      have HM := Lib.hid hm
      clear h hm hok
      go_enter Tryd.func38, Tryd.ntmps38
      go_wp2_with (first | (go_at_call 93; refine (HC.out _ (by repeat' (first | (with_reducible exact Below.refl _ _) | (with_reducible assumption) | (with_reducible refine Below.alloc ?_ ?_ _) | (with_reducible refine Below.drew ?_) | (with_reducible refine below_drewN ?_ _) | (with_reducible refine Below.setCell ?_ ?_ _) | (with_reducible refine below_up ?_ (by assumption)) | go_size))).mono ?_; rintro e w1 ⟨rfl, hb⟩; obtain ⟨hc, hf⟩ := bcell hb; have hz := (hb).size; (try simp at hz); have hz2 : w.heap.size < (w1).heap.size := (by omega); (try have hq1 : w.heap.size + 1 < (w1).heap.size := (by omega)); (try have hq2 : w.heap.size + 1 + 1 < (w1).heap.size := (by omega)); (try have hq3 : w.heap.size + 1 + 1 + 1 < (w1).heap.size := (by omega))) | (go_at_call 76; refine (withinR_any _ _ _ _).mono ?_; rw [HM.out]; rintro e w' ⟨rfl, rfl⟩))
      go_loopw [11, 12, 13] (fun so al i wr => ∃ g : Int, i = .int .i64 g ∧ a ≤ g ∧ g ≤ b + 1 ∧ so = .bool ((rowsL a g c (d + 1)).any (isB t m)) ∧ al = .bool ((rowsL a g c (d + 1)).all (isB t m)) ∧ w.heap.size + 1 + 1 < wr.heap.size ∧ (wr.cell? ⟨w.heap.size, 0, none⟩ = some (.int .i64 t.bg) ∧ wr.cell? ⟨w.heap.size, 1, none⟩ = some (.int .i64 t.bs) ∧ wr.cell? ⟨w.heap.size, 2, none⟩ = some (.int .i64 t.price) ∧ wr.cell? ⟨w.heap.size, 3, none⟩ = some (.int .i64 t.worst) ∧ wr.cell? ⟨w.heap.size, 4, none⟩ = some (.int .i64 t.short) ∧ wr.cell? ⟨w.heap.size, 5, none⟩ = some (.slice G t.grades.length gc) ∧ wr.cell? ⟨w.heap.size, 6, none⟩ = some (.slice S t.staples.length sc) ∧ wr.cell? ⟨w.heap.size, 7, none⟩ = some (.int .i64 t.dlo) ∧ wr.cell? ⟨w.heap.size, 8, none⟩ = some (.int .i64 t.dhi) ∧ wr.cell? ⟨w.heap.size, 9, none⟩ = some (.int .i64 t.bales) ∧ wr.cell? ⟨w.heap.size, 10, none⟩ = some (.int .i64 t.fee)) ∧ (wr.cell? ⟨w.heap.size + 1, 0, none⟩ = some (.int .i64 a) ∧ wr.cell? ⟨w.heap.size + 1, 1, none⟩ = some (.int .i64 b)) ∧ (wr.cell? ⟨w.heap.size + 1 + 1, 0, none⟩ = some (.int .i64 c) ∧ wr.cell? ⟨w.heap.size + 1 + 1, 1, none⟩ = some (.int .i64 d)) ∧ Below w.heap.size w wr) (fun _ _ i _ => (b + 1 - intOf i).toNat)
      case atStart =>
        refine ⟨a, rfl, by omega, by omega, by rw [rowsL_nil (by omega)]; rfl, by rw [rowsL_nil (by omega)]; rfl, by omega, ⟨?_, ?_, ?_, ?_, ?_, ?_, ?_, ?_, ?_, ?_, ?_⟩, ⟨?_, ?_⟩, ⟨?_, ?_⟩, (by repeat' (first | (with_reducible exact Below.refl _ _) | (with_reducible assumption) | (with_reducible refine Below.alloc ?_ ?_ _) | (with_reducible refine Below.drew ?_) | (with_reducible refine below_drewN ?_ _) | (with_reducible refine Below.setCell ?_ ?_ _) | (with_reducible refine below_up ?_ (by assumption)) | go_size))⟩
        all_goals first | (simp [*, go_sem]; done) | (simp (disch := (first | omega | (simp only [World.size_alloc, World.size_drew, World.size_setCell]; omega) | (simp; done))) [*, go_sem]; done)
      case round =>
        obtain ⟨g, rfl, hag, hgb, rfl, rfl, hsz, ⟨k0, k1, k2, k3, k4, k5, k6, k7, k8, k9, k10⟩, ⟨d0, d1⟩, ⟨e0, e1⟩, hbr⟩ := hrel
        have hz0 : w.heap.size < wr.heap.size := by omega
        have hz1 : w.heap.size + 1 < wr.heap.size := by omega
        by_cases hlt : g ≤ b
        · obtain ⟨X0, hX0⟩ : ∃ X0, (rowsL a g c (d + 1)).any (isB t m) = X0 := ⟨_, rfl⟩
          obtain ⟨Y0, hY0⟩ : ∃ Y0, (rowsL a g c (d + 1)).all (isB t m) = Y0 := ⟨_, rfl⟩
          rw [hX0, hY0]
          have HX0 := Lib.hid hX0
          have HY0 := Lib.hid hY0
          clear hX0 hY0
          go_wp2
          go_loopw [11, 12, 14] (fun so al i wr => ∃ s : Int, i = .int .i64 s ∧ c ≤ s ∧ s ≤ d + 1 ∧ so = .bool ((rowsL a g c (d + 1) ++ rowL g c s).any (isB t m)) ∧ al = .bool ((rowsL a g c (d + 1) ++ rowL g c s).all (isB t m)) ∧ w.heap.size + 1 + 1 < wr.heap.size ∧ (wr.cell? ⟨w.heap.size, 0, none⟩ = some (.int .i64 t.bg) ∧ wr.cell? ⟨w.heap.size, 1, none⟩ = some (.int .i64 t.bs) ∧ wr.cell? ⟨w.heap.size, 2, none⟩ = some (.int .i64 t.price) ∧ wr.cell? ⟨w.heap.size, 3, none⟩ = some (.int .i64 t.worst) ∧ wr.cell? ⟨w.heap.size, 4, none⟩ = some (.int .i64 t.short) ∧ wr.cell? ⟨w.heap.size, 5, none⟩ = some (.slice G t.grades.length gc) ∧ wr.cell? ⟨w.heap.size, 6, none⟩ = some (.slice S t.staples.length sc) ∧ wr.cell? ⟨w.heap.size, 7, none⟩ = some (.int .i64 t.dlo) ∧ wr.cell? ⟨w.heap.size, 8, none⟩ = some (.int .i64 t.dhi) ∧ wr.cell? ⟨w.heap.size, 9, none⟩ = some (.int .i64 t.bales) ∧ wr.cell? ⟨w.heap.size, 10, none⟩ = some (.int .i64 t.fee)) ∧ (wr.cell? ⟨w.heap.size + 1, 0, none⟩ = some (.int .i64 a) ∧ wr.cell? ⟨w.heap.size + 1, 1, none⟩ = some (.int .i64 b)) ∧ (wr.cell? ⟨w.heap.size + 1 + 1, 0, none⟩ = some (.int .i64 c) ∧ wr.cell? ⟨w.heap.size + 1 + 1, 1, none⟩ = some (.int .i64 d)) ∧ Below w.heap.size w wr) (fun _ _ i _ => (d + 1 - intOf i).toNat)
          case atStart =>
            refine ⟨c, rfl, by omega, by omega, by rw [rowL_nil (by omega), List.append_nil, HX0.out], by rw [rowL_nil (by omega), List.append_nil, HY0.out], by omega, ⟨?_, ?_, ?_, ?_, ?_, ?_, ?_, ?_, ?_, ?_, ?_⟩, ⟨?_, ?_⟩, ⟨?_, ?_⟩, (by repeat' (first | (with_reducible exact Below.refl _ _) | (with_reducible assumption) | (with_reducible refine Below.alloc ?_ ?_ _) | (with_reducible refine Below.drew ?_) | (with_reducible refine below_drewN ?_ _) | (with_reducible refine Below.setCell ?_ ?_ _) | (with_reducible refine below_up ?_ (by assumption)) | go_size))⟩
            all_goals assumption
          case round =>
            clear k0 k1 k2 k3 k4 k5 k6 k7 k8 k9 k10 d0 d1 e0 e1 hz0 hz1 hsz hbr
            obtain ⟨s, rfl, hcs, hsd, rfl, rfl, hsz, ⟨k0, k1, k2, k3, k4, k5, k6, k7, k8, k9, k10⟩, ⟨d0, d1⟩, ⟨e0, e1⟩, hbr⟩ := hrel
            have hz0 : w.heap.size < wr.heap.size := by omega
            have hz1 : w.heap.size + 1 < wr.heap.size := by omega
            obtain ⟨X, hX⟩ : ∃ X, (rowsL a g c (d + 1) ++ rowL g c s).any (isB t m) = X := ⟨_, rfl⟩
            obtain ⟨Y, hY⟩ : ∃ Y, (rowsL a g c (d + 1) ++ rowL g c s).all (isB t m) = Y := ⟨_, rfl⟩
            rw [hX, hY]
            have HX := Lib.hid hX
            have HY := Lib.hid hY
            clear hX hY
            by_cases hlt2 : s ≤ d
            · have HB := Lib.hid (show isB t m (g, s) = (mayB t g s && dueB t m) from rfl)
              cases h1 : mayB t g s <;> cases h2 : dueB t m <;> cases X <;> cases Y
              all_goals
                have H1 := Lib.hid h1
                have H2 := Lib.hid (show inB t.dlo t.dhi m = _ from h2)
                have HB2 := Lib.hid (HB.out.trans (by rw [h1, h2]))
                clear h1 h2
                go_wp2_with (first | (go_at_call 68; refine (mayR_any t G S gc sc g s _).mono ?_; rw [H1.out]; rintro e w' ⟨rfl, hb2⟩; obtain ⟨hc, hf⟩ := bcell hb2; have hz := (hb2).size; (try simp at hz); have hz2 : w.heap.size < (w').heap.size := (by omega); (try have hq1 : w.heap.size + 1 < (w').heap.size := (by omega)); (try have hq2 : w.heap.size + 1 + 1 < (w').heap.size := (by omega)); (try have hq3 : w.heap.size + 1 + 1 + 1 < (w').heap.size := (by omega))) | (go_at_call 76; refine (withinR_any m t.dlo t.dhi _).mono ?_; rw [H2.out]; rintro e w'' ⟨rfl, rfl⟩))
                go_roundw
                case rel =>
                  refine ⟨s + 1, by go_num, by omega, by omega, by rw [rowL_succ (by omega), rows_any_snoc, HX.out, HB2.out]; rfl, by rw [rowL_succ (by omega), rows_all_snoc, HY.out, HB2.out]; rfl, by omega, ⟨?_, ?_, ?_, ?_, ?_, ?_, ?_, ?_, ?_, ?_, ?_⟩, ⟨?_, ?_⟩, ⟨?_, ?_⟩, (by repeat' (first | (with_reducible exact Below.refl _ _) | (with_reducible assumption) | (with_reducible refine Below.alloc ?_ ?_ _) | (with_reducible refine Below.drew ?_) | (with_reducible refine below_drewN ?_ _) | (with_reducible refine Below.setCell ?_ ?_ _) | (with_reducible refine below_up ?_ (by assumption)) | go_size))⟩
                  all_goals first | (simp [*, go_sem]; done) | (simp (disch := (first | omega | (simp only [World.size_alloc, World.size_drew, World.size_setCell]; omega) | (simp; done))) [*, go_sem]; done)
                case measure => simp [intOf]; omega
            · have hse : s = d + 1 := by omega
              have HX2 := Lib.hid (show (rowsL a (g + 1) c (d + 1)).any (isB t m) = X by have h9 := HX.out; rw [hse] at h9; rw [rowsL_succ (by omega)]; exact h9)
              have HY2 := Lib.hid (show (rowsL a (g + 1) c (d + 1)).all (isB t m) = Y by have h9 := HY.out; rw [hse] at h9; rw [rowsL_succ (by omega)]; exact h9)
              clear hse
              go_wp2
              go_roundw
              case rel =>
                refine ⟨g + 1, by go_num, by omega, by omega, by rw [HX2.out], by rw [HY2.out], by omega, ⟨?_, ?_, ?_, ?_, ?_, ?_, ?_, ?_, ?_, ?_, ?_⟩, ⟨?_, ?_⟩, ⟨?_, ?_⟩, (by repeat' (first | (with_reducible exact Below.refl _ _) | (with_reducible assumption) | (with_reducible refine Below.alloc ?_ ?_ _) | (with_reducible refine Below.drew ?_) | (with_reducible refine below_drewN ?_ _) | (with_reducible refine Below.setCell ?_ ?_ _) | (with_reducible refine below_up ?_ (by assumption)) | go_size))⟩
                all_goals assumption
              case measure => simp [intOf]; omega
        · have hge : g = b + 1 := by omega
          obtain ⟨X0, hX0⟩ : ∃ X0, (rowsL a g c (d + 1)).any (isB t m) = X0 := ⟨_, rfl⟩
          obtain ⟨Y0, hY0⟩ : ∃ Y0, (rowsL a g c (d + 1)).all (isB t m) = Y0 := ⟨_, rfl⟩
          rw [hX0, hY0]
          rw [hge] at hX0 hY0
          rw [hX0, hY0] at Hf
          clear hX0 hY0 hge
          cases X0 <;> cases Y0
          all_goals
            go_wp2
            go_ret2
            exact ⟨by rw [Hf.out]; rfl, (by repeat' (first | (with_reducible exact Below.refl _ _) | (with_reducible assumption) | (with_reducible refine Below.alloc ?_ ?_ _) | (with_reducible refine Below.drew ?_) | (with_reducible refine below_drewN ?_ _) | (with_reducible refine Below.setCell ?_ ?_ _) | (with_reducible refine below_up ?_ (by assumption)) | go_size))⟩
  · have h' : (err1 t a b c d != 0) = true := by simp [h]
    have Hf := Lib.hid (show knownP t a b c d m = (0, err1 t a b c d) by unfold knownP; rw [if_pos h])
    clear h
    go_enter Tryd.func38, Tryd.ntmps38
    go_wp2_with (go_at_call 93; refine (HC.out _ (by repeat' (first | (with_reducible exact Below.refl _ _) | (with_reducible assumption) | (with_reducible refine Below.alloc ?_ ?_ _) | (with_reducible refine Below.drew ?_) | (with_reducible refine below_drewN ?_ _) | (with_reducible refine Below.setCell ?_ ?_ _) | (with_reducible refine below_up ?_ (by assumption)) | go_size))).mono ?_; rintro e w' ⟨rfl, hb⟩; obtain ⟨hc, hf⟩ := bcell hb; have hz := (hb).size; (try simp at hz); have hz2 : w.heap.size < (w').heap.size := (by omega); (try have hq1 : w.heap.size + 1 < (w').heap.size := (by omega)); (try have hq2 : w.heap.size + 1 + 1 < (w').heap.size := (by omega)); (try have hq3 : w.heap.size + 1 + 1 + 1 < (w').heap.size := (by omega)))
    go_ret2
    exact ⟨by rw [Hf.out]; rfl, (by repeat' (first | (with_reducible exact Below.refl _ _) | (with_reducible assumption) | (with_reducible refine Below.alloc ?_ ?_ _) | (with_reducible refine Below.drew ?_) | (with_reducible refine below_drewN ?_ _) | (with_reducible refine Below.setCell ?_ ?_ _) | (with_reducible refine below_up ?_ (by assumption)) | go_size))⟩
end Go.Proofs.YtppejcmjjjfamaaDoor
