/- terms.Range. -/
import Derived.Test.YtppejcmjjjfamaaDoorFirstC
import Derived.Test.YtppejcmjjjfamaaDoorRangePlain
namespace Go.Proofs.YtppejcmjjjfamaaDoor
open Go.RowKit Go.Shelf

set_option maxRecDepth 100000 in
set_option maxHeartbeats 400000 in
theorem classesT_eq (t : TT) (G S : Option Addr) (gc sc : Nat) (a b c d : Int) (w : World) :
    Calls Tryd.prog 98 #[.agg #[.int .i64 t.bg, .int .i64 t.bs, .int .i64 t.price, .int .i64 t.worst, .int .i64 t.short, .slice G t.grades.length gc, .slice S t.staples.length sc, .int .i64 t.dlo, .int .i64 t.dhi, .int .i64 t.bales, .int .i64 t.fee], .agg #[.int .i64 a, .int .i64 b], .agg #[.int .i64 c, .int .i64 d]] w fun e w' =>
      e = .returned (.func (.func 122) #[] #[.pointer (some ⟨w.heap.size + 1, 0, none⟩), .pointer (some ⟨w.heap.size, 0, none⟩), .pointer (some ⟨w.heap.size + 1 + 1, 0, none⟩)]) ∧
      ((w.alloc (.cells #[.int .i64 t.bg, .int .i64 t.bs, .int .i64 t.price, .int .i64 t.worst, .int .i64 t.short, .slice G t.grades.length gc, .slice S t.staples.length sc, .int .i64 t.dlo, .int .i64 t.dhi, .int .i64 t.bales, .int .i64 t.fee] 132)).alloc (.cells #[.int .i64 a, .int .i64 b] 26)).alloc (.cells #[.int .i64 c, .int .i64 d] 26) = w' := by
  go_enter Tryd.func98, Tryd.ntmps98
  go_wp2
  go_ret
  exact ⟨rfl, rfl⟩
set_option maxHeartbeats 400000 in
theorem range1_eq (sg : Int) (bv : Nat) (w : World) :
    Calls Tryd.prog 94 #[.int .i64 sg, .pointer (some ⟨bv, 0, none⟩)] w fun e w' =>
      e = .returned (.func (.func 95) #[] #[.pointer (some ⟨w.heap.size, 0, none⟩), .pointer (some ⟨bv, 0, none⟩)]) ∧ w.alloc (.cells #[.int .i64 sg] 3) = w' := by
  go_enter Tryd.func94, Tryd.ntmps94
  go_wp2
  go_ret
  exact ⟨rfl, rfl⟩

/-- the first one of the classes by the order of values, or by its reverse -/
def ordV (t : TT) (sg : Int) (x y : Cls) : Int := sg * cmpZ (valC t x.1) (valC t y.1)
theorem firstV_any (t : TT) (G S : Option Addr) (gc sc : Nat) (a b c d sg : Int) (kg ko ks bs bv : Nat) (w : World) (hT : TermsA w G S t) (ht : tabs t) (hs : t.short ≤ 9223372036854775806) (ha : 1 ≤ a ∧ b ≤ 9) (hc : 1 ≤ c ∧ d ≤ 9) (hsg : sg = 1 ∨ sg = -1)
    (h1 : kg < w.heap.size) (h2 : ko < w.heap.size) (h3 : ks < w.heap.size) (h4 : bs < w.heap.size) (h5 : bv < w.heap.size)
    (g0 : w.cell? ⟨kg, 0, none⟩ = some (.int .i64 a)) (g1 : w.cell? ⟨kg, 1, none⟩ = some (.int .i64 b)) (o3 : w.cell? ⟨ko, 3, none⟩ = some (.int .i64 t.worst)) (o4 : w.cell? ⟨ko, 4, none⟩ = some (.int .i64 t.short))
    (s0 : w.cell? ⟨ks, 0, none⟩ = some (.int .i64 c)) (s1 : w.cell? ⟨ks, 1, none⟩ = some (.int .i64 d)) (q0 : w.cell? ⟨bs, 0, none⟩ = some (.int .i64 sg)) (q1 : w.cell? ⟨bv, 0, none⟩ = some (.func (.func 80) #[.agg #[.int .i64 t.bg, .int .i64 t.bs, .int .i64 t.price, .int .i64 t.worst, .int .i64 t.short, .slice G t.grades.length gc, .slice S t.staples.length sc, .int .i64 t.dlo, .int .i64 t.dhi, .int .i64 t.bales, .int .i64 t.fee]] #[])) :
    Calls Tryd.prog 97 #[.func (.func 122) #[] #[.pointer (some ⟨kg, 0, none⟩), .pointer (some ⟨ko, 0, none⟩), .pointer (some ⟨ks, 0, none⟩)], .func (.func 95) #[] #[.pointer (some ⟨bs, 0, none⟩), .pointer (some ⟨bv, 0, none⟩)]] w
      (FirstPostC (ordV t sg) (fun xs => xs.map (·.1) = classesL t a b c d) w) :=
  firstC_any 122 _ _ (ordV t sg) bs bv w (enters_of Tryd.func122 (by kernel_rfl) rfl)
    (classes1_seq t a b c d ha hc hs kg ko ks w.heap.size h1 h2 h3 w (Nat.le_refl _) g0 g1 o3 o4 s0 s1)
    (fun x y W hW => range2_any t G S gc sc x.1.1 x.1.2 y.1.1 y.1.2 sg bs bv W (hT.below hW) ht x.2.1 x.2.2 y.2.1 y.2.2 hsg ((hW.cell (p := ⟨bs, 0, none⟩) h4).trans q0) ((hW.cell (p := ⟨bv, 0, none⟩) h5).trans q1))

set_option maxRecDepth 100000 in
set_option maxHeartbeats 2000000 in
theorem rangeT_any (t : TT) (G S : Option Addr) (gc sc : Nat) (a b c d : Int) (w : World) (hL : Laid w) (hT : TermsA w G S t) :
    Calls Tryd.prog 39 #[.agg #[.int .i64 t.bg, .int .i64 t.bs, .int .i64 t.price, .int .i64 t.worst, .int .i64 t.short, .slice G t.grades.length gc, .slice S t.staples.length sc, .int .i64 t.dlo, .int .i64 t.dhi, .int .i64 t.bales, .int .i64 t.fee], .agg #[.int .i64 a, .int .i64 b], .agg #[.int .i64 c, .int .i64 d]] w fun e w' => e = .returned (.tuple #[.agg #[.int .i64 (rangeP t a b c d).1, .int .i64 (rangeP t a b c d).2.1], .int .i64 (rangeP t a b c d).2.2]) ∧ Below w.heap.size w w' := by
  have HL := Lib.hid hL
  have HT := Lib.hid hT
  clear hL hT
  go_enter Tryd.func39, Tryd.ntmps39
  go_upto_region 1 with fail
  go_cut [8, 9] (fun s8 s9 wx => ∃ k : Nat, s8 = .pointer (some ⟨k, 0, none⟩) ∧ s9 = .int .i64 (err1 t a b c d) ∧ k < wx.heap.size ∧ w.heap.size + 1 + 1 + 1 < wx.heap.size ∧ (∀ o, wx.frozen? ⟨w.heap.size + 1 + 1 + 1, o, none⟩ = false) ∧ (wx.cell? ⟨k, 0, none⟩ = some (.int .i64 t.bg) ∧ wx.cell? ⟨k, 1, none⟩ = some (.int .i64 t.bs) ∧ wx.cell? ⟨k, 2, none⟩ = some (.int .i64 t.price) ∧ wx.cell? ⟨k, 3, none⟩ = some (.int .i64 t.worst) ∧ wx.cell? ⟨k, 4, none⟩ = some (.int .i64 t.short) ∧ wx.cell? ⟨k, 5, none⟩ = some (.slice G t.grades.length gc) ∧ wx.cell? ⟨k, 6, none⟩ = some (.slice S t.staples.length sc) ∧ wx.cell? ⟨k, 7, none⟩ = some (.int .i64 t.dlo) ∧ wx.cell? ⟨k, 8, none⟩ = some (.int .i64 t.dhi) ∧ wx.cell? ⟨k, 9, none⟩ = some (.int .i64 t.bales) ∧ wx.cell? ⟨k, 10, none⟩ = some (.int .i64 t.fee)) ∧ (wx.cell? ⟨w.heap.size + 1, 0, none⟩ = some (.int .i64 a) ∧ wx.cell? ⟨w.heap.size + 1, 1, none⟩ = some (.int .i64 b)) ∧ (wx.cell? ⟨w.heap.size + 1 + 1, 0, none⟩ = some (.int .i64 c) ∧ wx.cell? ⟨w.heap.size + 1 + 1, 1, none⟩ = some (.int .i64 d)) ∧ (wx.cell? ⟨w.heap.size + 1 + 1 + 1, 0, none⟩ = some (.int .i64 0) ∧ wx.cell? ⟨w.heap.size + 1 + 1 + 1, 1, none⟩ = some (.int .i64 0)) ∧ Below w.heap.size w wx)
  case first =>
    go_region_held3 (fun w' => w'.cell? ⟨w.heap.size, 0, none⟩ = some (.int .i64 t.bg) ∧ w'.cell? ⟨w.heap.size, 1, none⟩ = some (.int .i64 t.bs) ∧ w'.cell? ⟨w.heap.size, 2, none⟩ = some (.int .i64 t.price) ∧ w'.cell? ⟨w.heap.size, 3, none⟩ = some (.int .i64 t.worst) ∧ w'.cell? ⟨w.heap.size, 4, none⟩ = some (.int .i64 t.short) ∧ w'.cell? ⟨w.heap.size, 5, none⟩ = some (.slice G t.grades.length gc) ∧ w'.cell? ⟨w.heap.size, 6, none⟩ = some (.slice S t.staples.length sc) ∧ w'.cell? ⟨w.heap.size, 7, none⟩ = some (.int .i64 t.dlo) ∧ w'.cell? ⟨w.heap.size, 8, none⟩ = some (.int .i64 t.dhi) ∧ w'.cell? ⟨w.heap.size, 9, none⟩ = some (.int .i64 t.bales) ∧ w'.cell? ⟨w.heap.size, 10, none⟩ = some (.int .i64 t.fee) ∧ w'.cell? ⟨w.heap.size + 1, 0, none⟩ = some (.int .i64 a) ∧ w'.cell? ⟨w.heap.size + 1, 1, none⟩ = some (.int .i64 b) ∧ w'.cell? ⟨w.heap.size + 2, 0, none⟩ = some (.int .i64 c) ∧ w'.cell? ⟨w.heap.size + 2, 1, none⟩ = some (.int .i64 d) ∧ w'.cell? ⟨w.heap.size + 3, 0, none⟩ = some (.int .i64 0) ∧ w'.cell? ⟨w.heap.size + 3, 1, none⟩ = some (.int .i64 0)) (first | (simp [*, go_sem]; done) | (simp [*, go_sem]; omega)) (first
      | (go_at_call 78; refine (spansT_any _ _ _ _).mono ?_; rintro e w' ⟨rfl, rfl⟩)
      | (go_at_call 77; refine (opened11 t G S gc sc a b c d _ _ _ _ _ (HL.out.below (by repeat' (first | (with_reducible exact Below.refl _ _) | (with_reducible assumption) | (with_reducible refine Below.alloc ?_ ?_ _) | (with_reducible refine Below.drew ?_) | (with_reducible refine below_drewN ?_ _) | (with_reducible refine Below.setCell ?_ ?_ _) | (with_reducible refine below_up ?_ (by assumption)) | go_size))) (HT.out.below (by repeat' (first | (with_reducible exact Below.refl _ _) | (with_reducible assumption) | (with_reducible refine Below.alloc ?_ ?_ _) | (with_reducible refine Below.drew ?_) | (with_reducible refine below_drewN ?_ _) | (with_reducible refine Below.setCell ?_ ?_ _) | (with_reducible refine below_up ?_ (by assumption)) | go_size))) (by simp) (by simp) (by simp [go_sem]) (by simp [go_sem]) (by simp [go_sem]) (by simp [go_sem])).mono ?_; rintro e w' ⟨rfl, hb⟩; obtain ⟨hc, hf⟩ := bcell hb; have hz := (hb).size; (try simp at hz); have hz2 : w.heap.size < (w').heap.size := (by omega); (try have hq1 : w.heap.size + 1 < (w').heap.size := (by omega)); (try have hq2 : w.heap.size + 1 + 1 < (w').heap.size := (by omega)); (try have hq3 : w.heap.size + 1 + 1 + 1 < (w').heap.size := (by omega)); have hz3 : w.heap.size + 1 < w'.heap.size := (by omega); have hz4 : w.heap.size + 2 < w'.heap.size := (by omega); have hz5 : w.heap.size + 3 < w'.heap.size := (by omega); have hcw0 := fun o => hc (w.heap.size) o (by first | assumption | omega | (simp; done) | (simp; omega)); have hcw1 := fun o => hc (w.heap.size + 1) o (by first | assumption | omega | (simp; done) | (simp; omega)); have hcw2 := fun o => hc (w.heap.size + 2) o (by first | assumption | omega | (simp; done) | (simp; omega)); have hcw3 := fun o => hc (w.heap.size + 3) o (by first | assumption | omega | (simp; done) | (simp; omega))))
    all_goals go_wp2_with fail
    all_goals go_meet
    all_goals refine ⟨_, rfl, rfl, ?_, ?_, ?_, ⟨?_, ?_, ?_, ?_, ?_, ?_, ?_, ?_, ?_, ?_, ?_⟩, ⟨?_, ?_⟩, ⟨?_, ?_⟩, ⟨?_, ?_⟩, (by repeat' (first | (with_reducible exact Below.refl _ _) | (with_reducible assumption) | (with_reducible refine Below.alloc ?_ ?_ _) | (with_reducible refine Below.drew ?_) | (with_reducible refine below_drewN ?_ _) | (with_reducible refine Below.setCell ?_ ?_ _) | (with_reducible refine below_up ?_ (by assumption)) | go_size))⟩
    all_goals first | (simp [*, go_sem]; done) | (simp [*, go_sem]; omega) | (intro o; simp [*, go_sem]; done) | (intro o; simp (disch := (first | omega | (simp only [World.size_alloc, World.size_drew, World.size_setCell]; omega) | (simp; done))) [*, go_sem]; done)
  case rest =>
    obtain ⟨k, rfl, rfl, hk, hk2, hf0, ⟨c0, c1, c2, c3, c4, c5, c6, c7, c8, c9, c10⟩, ⟨d0, d1⟩, ⟨e0, e1⟩, ⟨y0, y1⟩, hbW⟩ := hcut
    have hk1 : w.heap.size + 1 < wc.heap.size := by omega
    have hk3 : w.heap.size + 1 + 1 < wc.heap.size := by omega
    by_cases h : err1 t a b c d = 0
    · have h' : (err1 t a b c d != 0) = false := by simp [h]
      obtain ⟨hok, ⟨a1, a2, a3⟩, p1, p2, p3⟩ := err1_zero h
      have Ht := Lib.hid (okT.tabs hok)
      have HSH := Lib.hid (show t.short ≤ 9223372036854775806 by
        simp only [okT, ck1B, ck3B, Bool.and_eq_true, inB_true] at hok; omega)
      have HE := Lib.hid h
      clear h hok
      go_wp2_with (go_at_call 98; refine (classesT_eq t G S gc sc a b c d _).mono ?_; rintro e w1 ⟨rfl, rfl⟩)
      refine (range1_eq _ _ _).mono ?_
      rintro e w2 ⟨rfl, rfl⟩
      go_wp2_with fail
      refine (firstV_any t G S gc sc a b c d 1 _ _ _ _ _ _ (HT.out.below (by repeat' (first | (with_reducible exact Below.refl _ _) | (with_reducible assumption) | (with_reducible refine Below.alloc ?_ ?_ _) | (with_reducible refine Below.drew ?_) | (with_reducible refine below_drewN ?_ _) | (with_reducible refine Below.setCell ?_ ?_ _) | (with_reducible refine below_up ?_ (by assumption)) | go_size))) Ht.out HSH.out ⟨a1, a3⟩ ⟨p1, p3⟩ (.inl rfl) (by first | omega | (simp only [World.size_alloc, World.size_drew, World.size_setCell]; omega) | (simp; done) | (simp; omega)) (by first | omega | (simp only [World.size_alloc, World.size_drew, World.size_setCell]; omega) | (simp; done) | (simp; omega)) (by first | omega | (simp only [World.size_alloc, World.size_drew, World.size_setCell]; omega) | (simp; done) | (simp; omega)) (by first | omega | (simp only [World.size_alloc, World.size_drew, World.size_setCell]; omega) | (simp; done) | (simp; omega)) (by first | omega | (simp only [World.size_alloc, World.size_drew, World.size_setCell]; omega) | (simp; done) | (simp; omega)) (by simp [*, go_sem]) (by simp [*, go_sem]) (by simp [*, go_sem]) (by simp [*, go_sem]) (by simp [*, go_sem]) (by simp [*, go_sem]) (by simp [*, go_sem]) (by simp [*, go_sem])).mono ?_
      rintro e w3 ⟨xs, hxs, rfl, hb3⟩
      have hbx : Below wc.heap.size wc w3 := (by repeat' (first | (with_reducible exact Below.refl _ _) | (with_reducible assumption) | (with_reducible refine Below.alloc ?_ ?_ _) | (with_reducible refine Below.drew ?_) | (with_reducible refine below_drewN ?_ _) | (with_reducible refine Below.setCell ?_ ?_ _) | (with_reducible refine below_up ?_ (by assumption)) | go_size))
      have hkv : w3.cell? ⟨wc.heap.size, 0, none⟩ = some (.func (.func 80) #[.agg #[.int .i64 t.bg, .int .i64 t.bs, .int .i64 t.price, .int .i64 t.worst, .int .i64 t.short, .slice G t.grades.length gc, .slice S t.staples.length sc, .int .i64 t.dlo, .int .i64 t.dhi, .int .i64 t.bales, .int .i64 t.fee]] #[]) := by
        rw [hb3.cell (p := ⟨wc.heap.size, 0, none⟩) (by first | omega | (simp only [World.size_alloc, World.size_drew, World.size_setCell]; omega) | (dsimp only; omega) | (dsimp only; simp only [World.size_alloc, World.size_drew, World.size_setCell]; omega) | (simp; done) | (simp; omega))]; exact (by first | (simp [*, go_sem]; done) | (simp [go_sem]; done) | assumption | (simp (disch := (first | omega | (simp only [World.size_alloc, World.size_drew, World.size_setCell]; omega) | (simp; done))) [*, go_sem]; done))
      have hkz : wc.heap.size < w3.heap.size := by have := hb3.size; simp at this; omega
      obtain ⟨hc, hf⟩ := bcell hbx
      have hz := hbx.size
      have hz1 : k < w3.heap.size := by omega
      have hz2 : w.heap.size + 1 < w3.heap.size := by omega
      have hz3 : w.heap.size + 1 + 1 < w3.heap.size := by omega
      have hz4 : w.heap.size + 1 + 1 + 1 < w3.heap.size := by omega
      clear hb3
      cases hbest : bestL (ordV t 1) xs with
      | none =>
        have Hf := Lib.hid (show rangeP t a b c d = (0, 0, 6) by
          have e1 : xs = [] := bestL_none.1 hbest
          subst e1
          unfold rangeP
          rw [if_neg (by simpa using HE.out), ← hxs]; rfl)
        clear hbest hxs
        simp only [bestCells, Option.isSome_none]
        go_wp2_with fail
        rw [Hf.out]
        refine bodyPost_ret (v := .tuple #[.agg #[.int .i64 0, .int .i64 0], .int .i64 6]) (by simp [*, results, Tryd.results39, go_sem]) rfl ?_
        exact ⟨rfl, (by repeat' (first | (with_reducible exact Below.refl _ _) | (with_reducible assumption) | (with_reducible refine Below.alloc ?_ ?_ _) | (with_reducible refine Below.drew ?_) | (with_reducible refine below_drewN ?_ _) | (with_reducible refine Below.setCell ?_ ?_ _) | (with_reducible refine below_up ?_ (by assumption)) | go_size))⟩
      | some y =>
        have HB := Lib.hid hbest
        have HX := Lib.hid hxs
        clear hbest hxs
        simp only [bestCells, Option.isSome_some]
        go_wp2_with (go_at_call 98; refine (classesT_eq t G S gc sc a b c d _).mono ?_; rintro e w1 ⟨rfl, rfl⟩)
        refine (range1_eq _ _ _).mono ?_
        rintro e w2 ⟨rfl, rfl⟩
        go_wp2_with fail
        refine (firstV_any t G S gc sc a b c d (-1) _ _ _ _ _ _ (HT.out.below (by repeat' (first | (with_reducible exact Below.refl _ _) | (with_reducible assumption) | (with_reducible refine Below.alloc ?_ ?_ _) | (with_reducible refine Below.drew ?_) | (with_reducible refine below_drewN ?_ _) | (with_reducible refine Below.setCell ?_ ?_ _) | (with_reducible refine below_up ?_ (by assumption)) | go_size))) Ht.out HSH.out ⟨a1, a3⟩ ⟨p1, p3⟩ (.inr rfl) (by first | omega | (simp only [World.size_alloc, World.size_drew, World.size_setCell]; omega) | (simp; done) | (simp; omega)) (by first | omega | (simp only [World.size_alloc, World.size_drew, World.size_setCell]; omega) | (simp; done) | (simp; omega)) (by first | omega | (simp only [World.size_alloc, World.size_drew, World.size_setCell]; omega) | (simp; done) | (simp; omega)) (by first | omega | (simp only [World.size_alloc, World.size_drew, World.size_setCell]; omega) | (simp; done) | (simp; omega)) (by first | omega | (simp only [World.size_alloc, World.size_drew, World.size_setCell]; omega) | (simp; done) | (simp; omega)) (by first | (simp [*, go_sem]; done) | (simp [go_sem]; done) | assumption | (simp (disch := (first | omega | (simp only [World.size_alloc, World.size_drew, World.size_setCell]; omega) | (simp; done))) [*, go_sem]; done)) (by first | (simp [*, go_sem]; done) | (simp [go_sem]; done) | assumption | (simp (disch := (first | omega | (simp only [World.size_alloc, World.size_drew, World.size_setCell]; omega) | (simp; done))) [*, go_sem]; done)) (by first | (simp [*, go_sem]; done) | (simp [go_sem]; done) | assumption | (simp (disch := (first | omega | (simp only [World.size_alloc, World.size_drew, World.size_setCell]; omega) | (simp; done))) [*, go_sem]; done)) (by first | (simp [*, go_sem]; done) | (simp [go_sem]; done) | assumption | (simp (disch := (first | omega | (simp only [World.size_alloc, World.size_drew, World.size_setCell]; omega) | (simp; done))) [*, go_sem]; done)) (by first | (simp [*, go_sem]; done) | (simp [go_sem]; done) | assumption | (simp (disch := (first | omega | (simp only [World.size_alloc, World.size_drew, World.size_setCell]; omega) | (simp; done))) [*, go_sem]; done)) (by first | (simp [*, go_sem]; done) | (simp [go_sem]; done) | assumption | (simp (disch := (first | omega | (simp only [World.size_alloc, World.size_drew, World.size_setCell]; omega) | (simp; done))) [*, go_sem]; done)) (by first | (simp [*, go_sem]; done) | (simp [go_sem]; done) | assumption | (simp (disch := (first | omega | (simp only [World.size_alloc, World.size_drew, World.size_setCell]; omega) | (simp; done))) [*, go_sem]; done)) (by first | (simp [*, go_sem]; done) | (simp [go_sem]; done) | assumption | (simp (disch := (first | omega | (simp only [World.size_alloc, World.size_drew, World.size_setCell]; omega) | (simp; done))) [*, go_sem]; done))).mono ?_
        rintro e w4 ⟨ys, hys, rfl, hb4⟩
        have hby : Below wc.heap.size wc w4 := (by repeat' (first | (with_reducible exact Below.refl _ _) | (with_reducible assumption) | (with_reducible refine Below.alloc ?_ ?_ _) | (with_reducible refine Below.drew ?_) | (with_reducible refine below_drewN ?_ _) | (with_reducible refine Below.setCell ?_ ?_ _) | (with_reducible refine below_up ?_ (by assumption)) | go_size))
        have hkv4 : w4.cell? ⟨wc.heap.size, 0, none⟩ = some (.func (.func 80) #[.agg #[.int .i64 t.bg, .int .i64 t.bs, .int .i64 t.price, .int .i64 t.worst, .int .i64 t.short, .slice G t.grades.length gc, .slice S t.staples.length sc, .int .i64 t.dlo, .int .i64 t.dhi, .int .i64 t.bales, .int .i64 t.fee]] #[]) := by
          rw [hb4.cell (p := ⟨wc.heap.size, 0, none⟩) (by first | omega | (simp only [World.size_alloc, World.size_drew, World.size_setCell]; omega) | (dsimp only; omega) | (dsimp only; simp only [World.size_alloc, World.size_drew, World.size_setCell]; omega) | (simp; done) | (simp; omega))]; exact (by first | (simp [*, go_sem]; done) | (simp [go_sem]; done) | assumption | (simp (disch := (first | omega | (simp only [World.size_alloc, World.size_drew, World.size_setCell]; omega) | (simp; done))) [*, go_sem]; done))
        have hq0 : w4.cell? ⟨w3.heap.size, 0, none⟩ = some (.int .i64 y.1.1) := by
          rw [hb4.cell (p := ⟨w3.heap.size, 0, none⟩) (by first | omega | (simp only [World.size_alloc, World.size_drew, World.size_setCell]; omega) | (dsimp only; omega) | (dsimp only; simp only [World.size_alloc, World.size_drew, World.size_setCell]; omega) | (simp; done) | (simp; omega))]; exact (by first | (simp [*, go_sem]; done) | (simp [go_sem]; done) | assumption | (simp (disch := (first | omega | (simp only [World.size_alloc, World.size_drew, World.size_setCell]; omega) | (simp; done))) [*, go_sem]; done))
        have hq1 : w4.cell? ⟨w3.heap.size, 1, none⟩ = some (.int .i64 y.1.2) := by
          rw [hb4.cell (p := ⟨w3.heap.size, 1, none⟩) (by first | omega | (simp only [World.size_alloc, World.size_drew, World.size_setCell]; omega) | (dsimp only; omega) | (dsimp only; simp only [World.size_alloc, World.size_drew, World.size_setCell]; omega) | (simp; done) | (simp; omega))]; exact (by first | (simp [*, go_sem]; done) | (simp [go_sem]; done) | assumption | (simp (disch := (first | omega | (simp only [World.size_alloc, World.size_drew, World.size_setCell]; omega) | (simp; done))) [*, go_sem]; done))
        have hqz : w3.heap.size < w4.heap.size := by have := hb4.size; simp at this; omega
        clear hc hf hz
        obtain ⟨hc, hf⟩ := bcell hby
        have hz := hby.size
        have hz5 : wc.heap.size < w4.heap.size := by omega
        have hz6 : w.heap.size + 1 + 1 + 1 < w4.heap.size := by omega
        clear hb4
        cases hbest2 : bestL (ordV t (-1)) ys with
        | none =>
          exfalso
          have e1 : ys = [] := bestL_none.1 hbest2
          have e2 : xs = [] := by
            have := HX.out.trans hys.symm
            rw [e1] at this; simpa using this
          have := HB.out
          rw [e2] at this; simp [bestL] at this
        | some z =>
          have Hf := Lib.hid (show rangeP t a b c d = (valueI t y.1.1 y.1.2, valueI t z.1.1 z.1.2, 0) by
            unfold rangeP
            rw [if_neg (by simpa using HE.out), ends_of HX.out hys HB.out hbest2]; rfl)
          clear hbest2 hys
          simp only [bestCells, Option.isSome_some]
          have HV1 := Lib.hid (fun W (hW : Below w.heap.size w W) => valueT_any t G S gc sc y.1.1 y.1.2 W (HT.out.below hW) Ht.out y.2.1 y.2.2)
          have HV2 := Lib.hid (fun W (hW : Below w.heap.size w W) => valueT_any t G S gc sc z.1.1 z.1.2 W (HT.out.below hW) Ht.out z.2.1 z.2.2)
          generalize valueI t y.1.1 y.1.2 = v1 at *
          generalize valueI t z.1.1 z.1.2 = v2 at *
          generalize y.1.1 = ya at *
          generalize y.1.2 = yb at *
          generalize z.1.1 = za at *
          generalize z.1.2 = zb at *
          have r0 := (hc _ _ hk2).trans y0
          have r1 := (hc _ _ hk2).trans y1
          have rf : ∀ o, w4.frozen? ⟨w.heap.size + 1 + 1 + 1, o, none⟩ = false := fun o => (hf _ o hk2).trans (hf0 o)
          clear hc hf hf0 c0 c1 c2 c3 c4 c5 c6 c7 c8 c9 c10 d0 d1 e0 e1 y0 y1
          go_upto_region 10 with fail
          go_region_held3 (fun w' => w'.cell? ⟨wc.heap.size, 0, none⟩ = some (.func (.func 80) #[.agg #[.int .i64 t.bg, .int .i64 t.bs, .int .i64 t.price, .int .i64 t.worst, .int .i64 t.short, .slice G t.grades.length gc, .slice S t.staples.length sc, .int .i64 t.dlo, .int .i64 t.dhi, .int .i64 t.bales, .int .i64 t.fee]] #[]) ∧ w'.cell? ⟨w3.heap.size, 0, none⟩ = some (.int .i64 ya) ∧ w'.cell? ⟨w3.heap.size, 1, none⟩ = some (.int .i64 yb) ∧ w'.cell? ⟨w4.heap.size, 0, none⟩ = some (.int .i64 za) ∧ w'.cell? ⟨w4.heap.size, 1, none⟩ = some (.int .i64 zb)) (first | (simp [*, go_sem]; done) | (refine ⟨?_, ⟨?_, ?_⟩, ⟨?_, ?_⟩⟩ <;> (first | assumption | (rw [hc _ _ (by first | omega | (simp only [World.size_alloc, World.size_drew, World.size_setCell]; omega) | (dsimp only; omega) | (dsimp only; simp only [World.size_alloc, World.size_drew, World.size_setCell]; omega) | (simp; done) | (simp; omega))]; first | assumption | (simp [*, go_sem]; done)) | (rw [hf _ _ (by first | omega | (simp only [World.size_alloc, World.size_drew, World.size_setCell]; omega) | (dsimp only; omega) | (dsimp only; simp only [World.size_alloc, World.size_drew, World.size_setCell]; omega) | (simp; done) | (simp; omega))]; first | assumption | (simp [*, go_sem]; done)) | (simp [*, go_sem]; done)))) (first
            | (go_at_call_of 80 (Value.agg #[.int .i64 ya, .int .i64 yb]); refine (HV1.out _ (by repeat' (first | (with_reducible exact Below.refl _ _) | (with_reducible assumption) | (with_reducible refine Below.alloc ?_ ?_ _) | (with_reducible refine Below.drew ?_) | (with_reducible refine below_drewN ?_ _) | (with_reducible refine Below.setCell ?_ ?_ _) | (with_reducible refine below_up ?_ (by assumption)) | go_size))).mono ?_; rintro e w' ⟨rfl, hb9⟩; obtain ⟨hc, hf⟩ := bcell hb9; have hz := (hb9).size; (try simp at hz); have hz2 : w.heap.size < (w').heap.size := (by omega); (try have hq1 : w.heap.size + 1 < (w').heap.size := (by omega)); (try have hq2 : w.heap.size + 1 + 1 < (w').heap.size := (by omega)); (try have hq3 : w.heap.size + 1 + 1 + 1 < (w').heap.size := (by omega)); have hr1 : wc.heap.size < w'.heap.size := (by omega); have hr2 : w3.heap.size < w'.heap.size := (by omega); have hr3 : w4.heap.size < w'.heap.size := (by omega); have hr4 : w.heap.size + 1 + 1 + 1 < w'.heap.size := (by omega); have hcw0 := fun o => hc (w.heap.size + 1 + 1 + 1) o (by first | assumption | omega | (simp; done) | (simp; omega)); have hfw0 := fun o => hf (w.heap.size + 1 + 1 + 1) o (by first | omega | (simp only [World.size_alloc, World.size_drew, World.size_setCell]; omega) | (dsimp only; omega) | (dsimp only; simp only [World.size_alloc, World.size_drew, World.size_setCell]; omega) | (simp; done) | (simp; omega)))
            | (go_at_call_of 80 (Value.agg #[.int .i64 za, .int .i64 zb]); refine (HV2.out _ (by repeat' (first | (with_reducible exact Below.refl _ _) | (with_reducible assumption) | (with_reducible refine Below.alloc ?_ ?_ _) | (with_reducible refine Below.drew ?_) | (with_reducible refine below_drewN ?_ _) | (with_reducible refine Below.setCell ?_ ?_ _) | (with_reducible refine below_up ?_ (by assumption)) | go_size))).mono ?_; rintro e w' ⟨rfl, hb9⟩; obtain ⟨hc, hf⟩ := bcell hb9; have hz := (hb9).size; (try simp at hz); have hz2 : w.heap.size < (w').heap.size := (by omega); (try have hq1 : w.heap.size + 1 < (w').heap.size := (by omega)); (try have hq2 : w.heap.size + 1 + 1 < (w').heap.size := (by omega)); (try have hq3 : w.heap.size + 1 + 1 + 1 < (w').heap.size := (by omega)); have hr1 : wc.heap.size < w'.heap.size := (by omega); have hr2 : w3.heap.size < w'.heap.size := (by omega); have hr3 : w4.heap.size < w'.heap.size := (by omega); have hr4 : w.heap.size + 1 + 1 + 1 < w'.heap.size := (by omega); have hcw0 := fun o => hc (w.heap.size + 1 + 1 + 1) o (by first | assumption | omega | (simp; done) | (simp; omega)); have hfw0 := fun o => hf (w.heap.size + 1 + 1 + 1) o (by first | omega | (simp only [World.size_alloc, World.size_drew, World.size_setCell]; omega) | (dsimp only; omega) | (dsimp only; simp only [World.size_alloc, World.size_drew, World.size_setCell]; omega) | (simp; done) | (simp; omega))))
          all_goals go_wp2_with fail
          all_goals rw [Hf.out]
          all_goals refine bodyPost_ret (v := .tuple #[.agg #[.int .i64 v1, .int .i64 v2], .int .i64 0]) (by simp [*, results, Tryd.results39, go_sem]) rfl ?_
          all_goals exact ⟨rfl, (by repeat' (first | (with_reducible exact Below.refl _ _) | (with_reducible assumption) | (with_reducible refine Below.alloc ?_ ?_ _) | (with_reducible refine Below.drew ?_) | (with_reducible refine below_drewN ?_ _) | (with_reducible refine Below.setCell ?_ ?_ _) | (with_reducible refine below_up ?_ (by assumption)) | go_size))⟩
    · have h' : (err1 t a b c d != 0) = true := by simp [h]
      have Hf := Lib.hid (show rangeP t a b c d = (0, 0, err1 t a b c d) by unfold rangeP; rw [if_pos h])
      clear h
      go_wp2
      rw [Hf.out]
      refine bodyPost_ret (v := .tuple #[.agg #[.int .i64 0, .int .i64 0], .int .i64 (err1 t a b c d)]) (by simp [*, results, Tryd.results39, go_sem]) rfl ?_
      exact ⟨rfl, (by repeat' (first | (with_reducible exact Below.refl _ _) | (with_reducible assumption) | (with_reducible refine Below.alloc ?_ ?_ _) | (with_reducible refine Below.drew ?_) | (with_reducible refine below_drewN ?_ _) | (with_reducible refine Below.setCell ?_ ?_ _) | (with_reducible refine below_up ?_ (by assumption)) | go_size))⟩
end Go.Proofs.YtppejcmjjjfamaaDoor
