/- The reference's Total: the walk. -/
import Derived.Test.YtppejcmjjjfamaaDoorTotal
namespace Go.Proofs.YtppejcmjjjfamaaDoor
open Go.RowKit

set_option maxHeartbeats 4000000 in
theorem totalR_any (t : TT) (G S : Option Addr) (gc sc : Nat) (m : Int) (l : List (Int × Int)) (A : Option Addr) (c : Nat) (w : World) (hT : TermsA w G S t) (hA : PairsA w A l) (hn : l.length ≤ 1000000) :
    Calls Tryd.prog 30 #[.agg #[.int .i64 t.bg, .int .i64 t.bs, .int .i64 t.price, .int .i64 t.worst, .int .i64 t.short, .slice G t.grades.length gc, .slice S t.staples.length sc, .int .i64 t.dlo, .int .i64 t.dhi, .int .i64 t.bales, .int .i64 t.fee], .int .i64 m, .slice A l.length c] w (TotalPost w (totalP t m l)) := by
  have HC := Lib.hid (fun W (hW : Below w.heap.size w W) => termsR_any t G S gc sc W (hT.below hW))
  have HT := Lib.hid hT
  have HA := Lib.hid hA
  clear hT hA
  cases hok : okT t
  · have Hf := Lib.hid (show totalP t m l = (0, [], 40) by simp [totalP, hok])
    have HO := Lib.hid hok
    clear hok
    go_enter Tryd.func30, Tryd.ntmps30
    go_wp2_with (go_at_call 81; refine (HC.out _ (by repeat' (first | (with_reducible exact Below.refl _ _) | (with_reducible assumption) | (with_reducible refine Below.alloc ?_ ?_ _) | (with_reducible refine Below.drew ?_) | (with_reducible refine below_drewN ?_ _) | (with_reducible refine Below.setCell ?_ ?_ _) | (with_reducible refine below_up ?_ (by assumption)) | go_size))).mono ?_; rw [HO.out]; rintro e w1 ⟨rfl, hb1⟩; obtain ⟨hc, hf⟩ := bcell hb1; have hz := (hb1).size; (try simp at hz); have hz2 : w.heap.size < (w1).heap.size := (by omega); (try have hq1 : w.heap.size + 1 < (w1).heap.size := (by omega)); (try have hq2 : w.heap.size + 1 + 1 < (w1).heap.size := (by omega)); (try have hq3 : w.heap.size + 1 + 1 + 1 < (w1).heap.size := (by omega)))
    go_ret3
    rw [Hf.out]
    exact totalPost_err (by repeat' (first | (with_reducible exact Below.refl _ _) | (with_reducible assumption) | (with_reducible refine Below.alloc ?_ ?_ _) | (with_reducible refine Below.drew ?_) | (with_reducible refine below_drewN ?_ _) | (with_reducible refine Below.setCell ?_ ?_ _) | (with_reducible refine below_up ?_ (by assumption)) | go_size))
  have HO := Lib.hid hok
  have Ht := Lib.hid (okT.tabs hok)
  cases hdue : dueB t m
  · have Hf := Lib.hid (show totalP t m l = (0, [], 44) by simp [totalP, hok, hdue])
    have HD := Lib.hid (show inB t.dlo t.dhi m = false from hdue)
    clear hok hdue
    go_enter Tryd.func30, Tryd.ntmps30
    go_wp2_with (first
      | (go_at_call 81; refine (HC.out _ (by repeat' (first | (with_reducible exact Below.refl _ _) | (with_reducible assumption) | (with_reducible refine Below.alloc ?_ ?_ _) | (with_reducible refine Below.drew ?_) | (with_reducible refine below_drewN ?_ _) | (with_reducible refine Below.setCell ?_ ?_ _) | (with_reducible refine below_up ?_ (by assumption)) | go_size))).mono ?_; rw [HO.out]; rintro e w1 ⟨rfl, hb1⟩; obtain ⟨hc, hf⟩ := bcell hb1; have hz := (hb1).size; (try simp at hz); have hz2 : w.heap.size < (w1).heap.size := (by omega); (try have hq1 : w.heap.size + 1 < (w1).heap.size := (by omega)); (try have hq2 : w.heap.size + 1 + 1 < (w1).heap.size := (by omega)); (try have hq3 : w.heap.size + 1 + 1 + 1 < (w1).heap.size := (by omega)))
      | (go_at_call 76; refine (withinR_any _ _ _ _).mono ?_; rw [HD.out]; rintro e w2 ⟨rfl, rfl⟩))
    go_ret3
    rw [Hf.out]
    exact totalPost_err (by repeat' (first | (with_reducible exact Below.refl _ _) | (with_reducible assumption) | (with_reducible refine Below.alloc ?_ ?_ _) | (with_reducible refine Below.drew ?_) | (with_reducible refine below_drewN ?_ _) | (with_reducible refine Below.setCell ?_ ?_ _) | (with_reducible refine below_up ?_ (by assumption)) | go_size))
  have HD := Lib.hid (show inB t.dlo t.dhi m = true from hdue)
  by_cases hlen : t.bales < l.length
  · have Hf := Lib.hid (show totalP t m l = (0, [], 4) by simp [totalP, hok, hdue, hlen])
    have hlen' : decide (t.bales < (l.length : Int)) = true := by simp [hlen]
    clear hok hdue
    go_enter Tryd.func30, Tryd.ntmps30
    go_wp2_with (first
      | (go_at_call 81; refine (HC.out _ (by repeat' (first | (with_reducible exact Below.refl _ _) | (with_reducible assumption) | (with_reducible refine Below.alloc ?_ ?_ _) | (with_reducible refine Below.drew ?_) | (with_reducible refine below_drewN ?_ _) | (with_reducible refine Below.setCell ?_ ?_ _) | (with_reducible refine below_up ?_ (by assumption)) | go_size))).mono ?_; rw [HO.out]; rintro e w1 ⟨rfl, hb1⟩; obtain ⟨hc, hf⟩ := bcell hb1; have hz := (hb1).size; (try simp at hz); have hz2 : w.heap.size < (w1).heap.size := (by omega); (try have hq1 : w.heap.size + 1 < (w1).heap.size := (by omega)); (try have hq2 : w.heap.size + 1 + 1 < (w1).heap.size := (by omega)); (try have hq3 : w.heap.size + 1 + 1 + 1 < (w1).heap.size := (by omega)))
      | (go_at_call 76; refine (withinR_any _ _ _ _).mono ?_; rw [HD.out]; rintro e w2 ⟨rfl, rfl⟩))
    go_ret3
    rw [Hf.out]
    exact totalPost_err (by repeat' (first | (with_reducible exact Below.refl _ _) | (with_reducible assumption) | (with_reducible refine Below.alloc ?_ ?_ _) | (with_reducible refine Below.drew ?_) | (with_reducible refine below_drewN ?_ _) | (with_reducible refine Below.setCell ?_ ?_ _) | (with_reducible refine below_up ?_ (by assumption)) | go_size))
  have Hf := Lib.hid (show totalP t m l = (if errTo l l.length ≠ 0 then (0, [], errTo l l.length) else (sumTo t l l.length, refTo t l l.length, 0)) by simp [totalP, hok, hdue, hlen])
  have hlen' : decide (t.bales < (l.length : Int)) = false := by simp [hlen]
  clear hok hdue hlen
  go_enter Tryd.func30, Tryd.ntmps30
  go_wp2_with (first
      | (go_at_call 81; refine (HC.out _ (by repeat' (first | (with_reducible exact Below.refl _ _) | (with_reducible assumption) | (with_reducible refine Below.alloc ?_ ?_ _) | (with_reducible refine Below.drew ?_) | (with_reducible refine below_drewN ?_ _) | (with_reducible refine Below.setCell ?_ ?_ _) | (with_reducible refine below_up ?_ (by assumption)) | go_size))).mono ?_; rw [HO.out]; rintro e w1 ⟨rfl, hb1⟩; obtain ⟨hc, hf⟩ := bcell hb1; have hz := (hb1).size; (try simp at hz); have hz2 : w.heap.size < (w1).heap.size := (by omega); (try have hq1 : w.heap.size + 1 < (w1).heap.size := (by omega)); (try have hq2 : w.heap.size + 1 + 1 < (w1).heap.size := (by omega)); (try have hq3 : w.heap.size + 1 + 1 + 1 < (w1).heap.size := (by omega)))
      | (go_at_call 76; refine (withinR_any _ _ _ _).mono ?_; rw [HD.out]; rintro e w2 ⟨rfl, rfl⟩))
  clear HD HO hlen'
  go_loopw [35] (fun i wr => ∃ k : Nat, k ≤ l.length ∧ i = .int .i64 k ∧ Hid (errTo l k = 0) ∧ (wr.cell? ⟨w.heap.size, 0, none⟩ = some (.int .i64 t.bg) ∧ wr.cell? ⟨w.heap.size, 1, none⟩ = some (.int .i64 t.bs) ∧ wr.cell? ⟨w.heap.size, 2, none⟩ = some (.int .i64 t.price) ∧ wr.cell? ⟨w.heap.size, 3, none⟩ = some (.int .i64 t.worst) ∧ wr.cell? ⟨w.heap.size, 4, none⟩ = some (.int .i64 t.short) ∧ wr.cell? ⟨w.heap.size, 5, none⟩ = some (.slice G t.grades.length gc) ∧ wr.cell? ⟨w.heap.size, 6, none⟩ = some (.slice S t.staples.length sc) ∧ wr.cell? ⟨w.heap.size, 7, none⟩ = some (.int .i64 t.dlo) ∧ wr.cell? ⟨w.heap.size, 8, none⟩ = some (.int .i64 t.dhi) ∧ wr.cell? ⟨w.heap.size, 9, none⟩ = some (.int .i64 t.bales) ∧ wr.cell? ⟨w.heap.size, 10, none⟩ = some (.int .i64 t.fee)) ∧ w.heap.size < wr.heap.size ∧ Below w.heap.size w wr) (fun i _ => l.length - (intOf i).toNat)
  case atStart =>
    refine ⟨0, Nat.zero_le _, rfl, rfl, ⟨?_, ?_, ?_, ?_, ?_, ?_, ?_, ?_, ?_, ?_, ?_⟩, by assumption, (by repeat' (first | (with_reducible exact Below.refl _ _) | (with_reducible assumption) | (with_reducible refine Below.alloc ?_ ?_ _) | (with_reducible refine Below.drew ?_) | (with_reducible refine below_drewN ?_ _) | (with_reducible refine Below.setCell ?_ ?_ _) | (with_reducible refine below_up ?_ (by assumption)) | go_size))⟩
    all_goals first | (simp [*, go_sem]; done) | (simp (disch := (first | omega | (simp only [World.size_alloc, World.size_drew, World.size_setCell]; omega) | (simp; done))) [*, go_sem]; done)
  case round =>
    obtain ⟨k, hk, rfl, he, ⟨c0, c1, c2, c3, c4, c5, c6, c7, c8, c9, c10⟩, hsz, hbr⟩ := hrel
    by_cases hlt : k < l.length
    · have hlt2 : (k : Int) < l.length := by omega
      obtain ⟨b, off, rfl, hb, hc⟩ := (HA.out.below hbr) (by omega)
      obtain ⟨p1, p2⟩ := hc k hlt
      clear hc
      have HE := Lib.hid (show errCl (nth l k) = errC (nth l k).1 (nth l k).2 from rfl)
      generalize (nth l k).1 = x at p1 HE
      generalize (nth l k).2 = y at p2 HE
      have hkw : IntKind.i64.wrap ((k : Int) + 1) = (k : Int) + 1 := IntWalk.i64_in _ (by omega)
      by_cases h1 : errC x y = 0
      · have H1 := Lib.hid h1
        have he' := Lib.hid (show errTo l (k + 1) = 0 by simp only [errTo, he.out, if_true]; rw [HE.out]; exact h1)
        clear h1
        go_wp2_with (go_at_call 83; refine (classR_any x y _).mono ?_; rw [H1.out]; rintro e w' ⟨rfl, hb1⟩; obtain ⟨hc, hf⟩ := bcell hb1; have hz := (hb1).size; (try simp at hz); have hz2 : w.heap.size < (w').heap.size := (by omega); (try have hq1 : w.heap.size + 1 < (w').heap.size := (by omega)); (try have hq2 : w.heap.size + 1 + 1 < (w').heap.size := (by omega)); (try have hq3 : w.heap.size + 1 + 1 + 1 < (w').heap.size := (by omega)))
        go_roundw
        case rel =>
          refine ⟨k + 1, by omega, by go_num, he', ⟨?_, ?_, ?_, ?_, ?_, ?_, ?_, ?_, ?_, ?_, ?_⟩, ?_, (by repeat' (first | (with_reducible exact Below.refl _ _) | (with_reducible assumption) | (with_reducible refine Below.alloc ?_ ?_ _) | (with_reducible refine Below.drew ?_) | (with_reducible refine below_drewN ?_ _) | (with_reducible refine Below.setCell ?_ ?_ _) | (with_reducible refine below_up ?_ (by assumption)) | go_size))⟩
          all_goals first | (simp [*, go_sem]; done) | (simp (disch := (first | omega | (simp only [World.size_alloc, World.size_drew, World.size_setCell]; omega) | (simp; done))) [*, go_sem]; done) | omega
        case measure => simp [intOf]; omega
      · have Hf' := Lib.hid (show totalP t m l = (0, [], errC x y) by
          have h9 : errTo l l.length = errC x y := by rw [errTo_first he.out hlt (by rw [HE.out]; exact h1), HE.out]
          rw [Hf.out, h9, if_pos h1])
        have h0 : (errC x y != 0) = true := by simp [h1]
        clear h1
        go_wp2_with (go_at_call 83; refine (classR_any x y _).mono ?_; rintro e w' ⟨rfl, hb1⟩; obtain ⟨hc, hf⟩ := bcell hb1; have hz := (hb1).size; (try simp at hz); have hz2 : w.heap.size < (w').heap.size := (by omega); (try have hq1 : w.heap.size + 1 < (w').heap.size := (by omega)); (try have hq2 : w.heap.size + 1 + 1 < (w').heap.size := (by omega)); (try have hq3 : w.heap.size + 1 + 1 + 1 < (w').heap.size := (by omega)))
        go_ret3
        rw [Hf'.out]
        exact totalPost_err (by repeat' (first | (with_reducible exact Below.refl _ _) | (with_reducible assumption) | (with_reducible refine Below.alloc ?_ ?_ _) | (with_reducible refine Below.drew ?_) | (with_reducible refine below_drewN ?_ _) | (with_reducible refine Below.setCell ?_ ?_ _) | (with_reducible refine below_up ?_ (by assumption)) | go_size))
    · have hke : k = l.length := by omega
      subst hke
      have Hf' := Lib.hid (show totalP t m l = (sumTo t l l.length, refTo t l l.length, 0) by rw [Hf.out]; simp [he.out])
      have hlt2 : ¬ ((l.length : Nat) : Int) < l.length := by omega
      go_wp2_with fail
      go_loopw [12, 13, 47] (fun s v i wx => ∃ k : Nat, k ≤ l.length ∧ i = .int .i64 k ∧ s = .int .i64 (sumTo t l k) ∧ wx.ownsRow (w.heap.size + 1) 3 1 v (refTo t l k).length ((refTo t l k).map (Value.int .i64)) ∧ (wx.cell? ⟨w.heap.size, 0, none⟩ = some (.int .i64 t.bg) ∧ wx.cell? ⟨w.heap.size, 1, none⟩ = some (.int .i64 t.bs) ∧ wx.cell? ⟨w.heap.size, 2, none⟩ = some (.int .i64 t.price) ∧ wx.cell? ⟨w.heap.size, 3, none⟩ = some (.int .i64 t.worst) ∧ wx.cell? ⟨w.heap.size, 4, none⟩ = some (.int .i64 t.short) ∧ wx.cell? ⟨w.heap.size, 5, none⟩ = some (.slice G t.grades.length gc) ∧ wx.cell? ⟨w.heap.size, 6, none⟩ = some (.slice S t.staples.length sc) ∧ wx.cell? ⟨w.heap.size, 7, none⟩ = some (.int .i64 t.dlo) ∧ wx.cell? ⟨w.heap.size, 8, none⟩ = some (.int .i64 t.dhi) ∧ wx.cell? ⟨w.heap.size, 9, none⟩ = some (.int .i64 t.bales) ∧ wx.cell? ⟨w.heap.size, 10, none⟩ = some (.int .i64 t.fee)) ∧ w.heap.size < wx.heap.size ∧ Below w.heap.size w wx) (fun _ _ i _ => l.length - (intOf i).toNat)
      case atStart =>
        refine ⟨0, Nat.zero_le _, rfl, rfl, World.ownsRow_nil _ _ _ _, ⟨?_, ?_, ?_, ?_, ?_, ?_, ?_, ?_, ?_, ?_, ?_⟩, by assumption, (by repeat' (first | (with_reducible exact Below.refl _ _) | (with_reducible assumption) | (with_reducible refine Below.alloc ?_ ?_ _) | (with_reducible refine Below.drew ?_) | (with_reducible refine below_drewN ?_ _) | (with_reducible refine Below.setCell ?_ ?_ _) | (with_reducible refine below_up ?_ (by assumption)) | go_size))⟩
        all_goals first | (simp [*, go_sem]; done) | (simp (disch := (first | omega | (simp only [World.size_alloc, World.size_drew, World.size_setCell]; omega) | (simp; done))) [*, go_sem]; done)
      case round =>
        clear c0 c1 c2 c3 c4 c5 c6 c7 c8 c9 c10 hsz hbr
        obtain ⟨k, hk, rfl, rfl, hown, ⟨c0, c1, c2, c3, c4, c5, c6, c7, c8, c9, c10⟩, hsz, hbr⟩ := hrel
        by_cases hlt : k < l.length
        · have hlt2 : (k : Int) < l.length := by omega
          obtain ⟨b, off, rfl, hb, hc⟩ := (HA.out.below hbr) (by omega)
          obtain ⟨p1, p2⟩ := hc k hlt
          clear hc
          have HM := Lib.hid (show mayC t (nth l k) = mayB t (nth l k).1 (nth l k).2 from rfl)
          have HV := Lib.hid (show valC t (nth l k) = valueI t (nth l k).1 (nth l k).2 from rfl)
          have HE := Lib.hid (show errCl (nth l k) = errC (nth l k).1 (nth l k).2 from rfl)
          have HB := Lib.hid (errTo_all he.out k hlt)
          generalize (nth l k).1 = x at p1 HM HV HE
          generalize (nth l k).2 = y at p2 HM HV HE
          have h1 : errC x y = 0 := by rw [← HE.out]; exact HB.out
          have hkw : IntKind.i64.wrap ((k : Int) + 1) = (k : Int) + 1 := IntWalk.i64_in _ (by omega)
          have hek : errTo l k = 0 := by
            by_cases h : errTo l k = 0
            · exact h
            · have := errTo_stay h l.length hk
              rw [he.out] at this; omega
          have Hown := Lib.hid (fun W hW => ownsRow_below (w' := W) hown hW)
          cases h2 : mayB t x y
          · have H2 := Lib.hid h2
            have hs' := Lib.hid (show sumTo t l (k + 1) = sumTo t l k by simp [sumTo, HM.out, h2])
            have hr' := Lib.hid (show refTo t l (k + 1) = refTo t l k ++ [(k : Int)] by simp [refTo, HM.out, h2])
            have hlen := refTo_len t l k
            obtain ⟨i0, ia, ib, ic, id⟩ := info_parts int_info
            clear h1 h2 hek
            go_wp2_with (first
              | (go_at_call 68; refine (mayR_any t G S gc sc x y _).mono ?_; rw [H2.out]; rintro e w' ⟨rfl, hb1⟩; obtain ⟨hc, hf⟩ := bcell hb1; have hz := (hb1).size; (try simp at hz); have hz2 : w.heap.size < (w').heap.size := (by omega); (try have hq1 : w.heap.size + 1 < (w').heap.size := (by omega)); (try have hq2 : w.heap.size + 1 + 1 < (w').heap.size := (by omega)); (try have hq3 : w.heap.size + 1 + 1 + 1 < (w').heap.size := (by omega)))
              | (at_builtin; refine wpList_append_own _ rfl _ _ 24 rfl (w.heap.size + 1) 3 i0 (.int .i64 0) 1 8 Tryd.underlying24 ia ib ic id rfl (by decide) u13 _ _ rfl (Hown.out _ (by repeat' (first | (with_reducible exact Below.refl _ _) | (with_reducible assumption) | (with_reducible refine Below.alloc ?_ ?_ _) | (with_reducible refine Below.drew ?_) | (with_reducible refine below_drewN ?_ _) | (with_reducible refine Below.setCell ?_ ?_ _) | (with_reducible refine below_up ?_ (by assumption)) | go_size))) ⟨_, 0, none⟩ 1 1 [.int .i64 (k : Int)] rfl rfl (cell_one_new _ _ _) (fun x hx => by simp at hx; subst hx; rfl) (by unfold maxLen; omega) (by omega) (by simp; omega) ?_; intro v' w3 hown' hgrow3 hnil3))
            go_roundw
            case rel =>
              have hb4 := Lib.hid (fun W (hg : W.grownBy w3 (u13 : Value).ownBlock) (h2 : Below wr.heap.size wr W) => (h2.mono (B' := w.heap.size + 1) (by omega)).grown hg (by have := h2.size; omega) (fun g hg => (hown.lt g hg).1))
              have hb3 : Below (w.heap.size + 1) wr w3 := hb4.out _ hgrow3 (by repeat' (first | (with_reducible exact Below.refl _ _) | (with_reducible assumption) | (with_reducible refine Below.alloc ?_ ?_ _) | (with_reducible refine Below.drew ?_) | (with_reducible refine below_drewN ?_ _) | (with_reducible refine Below.setCell ?_ ?_ _) | (with_reducible refine below_up ?_ (by assumption)) | go_size))
              have hcw := fun o => hb3.cell (p := ⟨w.heap.size, o, none⟩) (by simp)
              refine ⟨k + 1, by omega, by go_num, by rw [hs'.out], by rw [hr'.out]; simpa using hown', ⟨?_, ?_, ?_, ?_, ?_, ?_, ?_, ?_, ?_, ?_, ?_⟩, by have := hb3.size; omega, hbr.trans (hb3.mono (by omega))⟩
              all_goals rw [hcw]
              all_goals first | with_reducible exact c0 | with_reducible exact c1 | with_reducible exact c2 | with_reducible exact c3 | with_reducible exact c4 | with_reducible exact c5 | with_reducible exact c6 | with_reducible exact c7 | with_reducible exact c8 | with_reducible exact c9 | with_reducible exact c10
            case measure => simp [intOf]; omega
          · have H2 := Lib.hid h2
            have hs' := Lib.hid (show sumTo t l (k + 1) = sumTo t l k + valueI t x y by simp [sumTo, HM.out, HV.out, h2])
            have hr' := Lib.hid (show refTo t l (k + 1) = refTo t l k by simp [refTo, HM.out, h2])
            obtain ⟨g1, g2⟩ := errC_zero h1
            have hw1 : IntKind.i64.wrap (sumTo t l k + valueI t x y) = sumTo t l k + valueI t x y := IntWalk.i64_in _ (by
              have a1 := Ht.out.val g1 g2
              have a2 := sumTo_bd Ht.out hek
              omega)
            have HW := Lib.hid (fun W (hW : Below w.heap.size w W) => valueR_any t G S gc sc x y W (HT.out.below hW) Ht.out g1 g2)
            clear h1 h2 hek g1 g2
            go_wp2_with (first
              | (go_at_call 68; refine (mayR_any t G S gc sc x y _).mono ?_; rw [H2.out]; rintro e w' ⟨rfl, hb1⟩; obtain ⟨hc, hf⟩ := bcell hb1; have hz := (hb1).size; (try simp at hz); have hz2 : w.heap.size < (w').heap.size := (by omega); (try have hq1 : w.heap.size + 1 < (w').heap.size := (by omega)); (try have hq2 : w.heap.size + 1 + 1 < (w').heap.size := (by omega)); (try have hq3 : w.heap.size + 1 + 1 + 1 < (w').heap.size := (by omega)))
              | (go_at_call 73; refine (HW.out _ (by repeat' (first | (with_reducible exact Below.refl _ _) | (with_reducible assumption) | (with_reducible refine Below.alloc ?_ ?_ _) | (with_reducible refine Below.drew ?_) | (with_reducible refine below_drewN ?_ _) | (with_reducible refine Below.setCell ?_ ?_ _) | (with_reducible refine below_up ?_ (by assumption)) | go_size))).mono ?_; rintro e w'' ⟨rfl, hb2⟩; obtain ⟨hc, hf⟩ := bcell hb2; have hz := (hb2).size; (try simp at hz); have hz2 : w.heap.size < (w'').heap.size := (by omega); (try have hq1 : w.heap.size + 1 < (w'').heap.size := (by omega)); (try have hq2 : w.heap.size + 1 + 1 < (w'').heap.size := (by omega)); (try have hq3 : w.heap.size + 1 + 1 + 1 < (w'').heap.size := (by omega))))
            go_roundw
            case rel =>
              refine ⟨k + 1, by omega, by go_num, by rw [hs'.out], (by rw [hr'.out]; exact Hown.out _ (by repeat' (first | (with_reducible exact Below.refl _ _) | (with_reducible assumption) | (with_reducible refine Below.alloc ?_ ?_ _) | (with_reducible refine Below.drew ?_) | (with_reducible refine below_drewN ?_ _) | (with_reducible refine Below.setCell ?_ ?_ _) | (with_reducible refine below_up ?_ (by assumption)) | go_size))), ⟨?_, ?_, ?_, ?_, ?_, ?_, ?_, ?_, ?_, ?_, ?_⟩, ?_, (by repeat' (first | (with_reducible exact Below.refl _ _) | (with_reducible assumption) | (with_reducible refine Below.alloc ?_ ?_ _) | (with_reducible refine Below.drew ?_) | (with_reducible refine below_drewN ?_ _) | (with_reducible refine Below.setCell ?_ ?_ _) | (with_reducible refine below_up ?_ (by assumption)) | go_size))⟩
              all_goals first | (simp [*, go_sem]; done) | (simp (disch := (first | omega | (simp only [World.size_alloc, World.size_drew, World.size_setCell]; omega) | (simp; done))) [*, go_sem]; done) | omega
            case measure => simp [intOf]; omega
        · have hke : k = l.length := by omega
          subst hke
          have hlt2 : ¬ ((l.length : Nat) : Int) < l.length := by omega
          obtain ⟨A1, cc, rfl, hO⟩ := ownsRow_ints hown
          go_wp2_with fail
          go_ret3
          rw [Hf'.out]
          exact ⟨A1, cc, rfl, hO.mono (by omega), hbr⟩
end Go.Proofs.YtppejcmjjjfamaaDoor
