/- middlinglaw04.TermsTotals: the walk. -/
import Derived.Test.YtppejcmjjjfamaaDoorTotalR
import Derived.Test.YtppejcmjjjfamaaDoorAppendPairs
import Derived.Test.YtppejcmjjjfamaaDoorSame
namespace Go.Proofs.YtppejcmjjjfamaaDoor
open Go.RowKit

theorem class_info : (Tryd.prog.info? 23).map (fun i => (i.zero, i.size, i.bytes)) = some (some (.agg #[.int .i64 0, .int .i64 0]), 2, 16) := by kernel_rfl
theorem sameB_refl (xs : List Int) : sameB xs xs = true := by simp [sameB]

set_option maxRecDepth 100000 in
set_option maxHeartbeats 8000000 in
theorem totals_any (t : TT) (G S : Option Addr) (gc sc : Nat) (m : Int) (l : List (Int × Int)) (A : Option Addr) (c : Nat) (w : World) (hL : Laid w) (hT : TermsA w G S t) (hA : PairsA w A l) :
    Calls Tryd.prog 4 #[.agg #[.int .i64 t.bg, .int .i64 t.bs, .int .i64 t.price, .int .i64 t.worst, .int .i64 t.short, .slice G t.grades.length gc, .slice S t.staples.length sc, .int .i64 t.dlo, .int .i64 t.dhi, .int .i64 t.bales, .int .i64 t.fee], .int .i64 m, .slice A l.length c] w fun e w' => e = .returned (.bool true) ∧ Below w.heap.size w w' := by
  cases hgr : greatB t
  · by_cases hl : 40 < l.length
    · have hl' : decide ((40 : Int) < (l.length : Int)) = true := by simp; omega
      have HG := Lib.hid hgr
      clear hL hT hgr hA
      go_enter Tryd.func4, Tryd.ntmps4
      go_wp2_with (go_at_call 20; refine (greatR_any t G S gc sc _).mono ?_; rw [HG.out]; rintro e w1 ⟨rfl, hb1⟩)
      go_ret
      exact ⟨rfl, (by repeat' (first | (with_reducible exact Below.refl _ _) | (with_reducible assumption) | (with_reducible refine Below.alloc ?_ ?_ _) | (with_reducible refine Below.drew ?_) | (with_reducible refine below_drewN ?_ _) | (with_reducible refine Below.setCell ?_ ?_ _) | (with_reducible refine below_up ?_ (by assumption)) | go_size))⟩
    · have hl' : decide ((40 : Int) < (l.length : Int)) = false := by simp; omega
      have hlen : t.grades.length ≤ 1000 ∧ t.staples.length ≤ 1000 := by simp [greatB] at hgr; omega
      have hn : l.length ≤ 1000000 := by omega
      have HG := Lib.hid hgr
      have HL := Lib.hid hL
      have HT := Lib.hid hT
      have HP := Lib.hid hA
      have hX := fun G' S' gc' sc' A' c' W h1 h2 h3 => totalT_any t G' S' gc' sc' m l A' c' W h1 h2 h3 hn
      have hY := fun W h2 h3 => totalR_any t G S gc sc m l A c W h2 h3 hn
      have hrl : (totalP t m l).2.1.length ≤ l.length := by
        unfold totalP
        repeat' split
        all_goals first | (simp; done) | exact refTo_len _ _ _
      generalize totalP t m l = r at *
      have HX := Lib.hid hX
      have HY := Lib.hid hY
      obtain ⟨i0, ia, ib, ic, id⟩ := info_parts class_info
      clear hL hT hgr hA hX hY
      go_enter Tryd.func4, Tryd.ntmps4
      go_wp2_with (go_at_call 20; refine (greatR_any t G S gc sc _).mono ?_; rw [HG.out]; rintro e w1 ⟨rfl, hb1⟩; obtain ⟨hc, hf⟩ := bcell hb1; have hz := (hb1).size; (try simp at hz); have hz2 : w.heap.size < (w1).heap.size := (by omega); (try have hq1 : w.heap.size + 1 < (w1).heap.size := (by omega)); (try have hq2 : w.heap.size + 1 + 1 < (w1).heap.size := (by omega)); (try have hq3 : w.heap.size + 1 + 1 + 1 < (w1).heap.size := (by omega)))
      refine (twinR_any t G S gc sc _ (HT.out.below (by repeat' (first | (with_reducible exact Below.refl _ _) | (with_reducible assumption) | (with_reducible refine Below.alloc ?_ ?_ _) | (with_reducible refine Below.drew ?_) | (with_reducible refine below_drewN ?_ _) | (with_reducible refine Below.setCell ?_ ?_ _) | (with_reducible refine below_up ?_ (by assumption)) | go_size))) hlen.1 hlen.2).mono ?_
      rintro e w2 ⟨G', S', gc', sc', rfl, hG, hS, hb2⟩
      obtain ⟨hc, hf⟩ := bcell hb2; have hz := (hb2).size; (try simp at hz); have hz2 : w.heap.size < (w2).heap.size := (by omega); (try have hq1 : w.heap.size + 1 < (w2).heap.size := (by omega)); (try have hq2 : w.heap.size + 1 + 1 < (w2).heap.size := (by omega)); (try have hq3 : w.heap.size + 1 + 1 + 1 < (w2).heap.size := (by omega))
      have HO := Lib.hid (show TermsA w2 G' S' t from ⟨hG.ints, hS.ints, HT.out.2.2⟩)
      clear hG hS
      go_wp2_with (at_builtin; refine wpList_append_pairs _ rfl _ _ 44 rfl 23 i0 _ Tryd.underlying44 ia ib ic id _ l A c rfl rfl (HP.out.below (by repeat' (first | (with_reducible exact Below.refl _ _) | (with_reducible assumption) | (with_reducible refine Below.alloc ?_ ?_ _) | (with_reducible refine Below.drew ?_) | (with_reducible refine below_drewN ?_ _) | (with_reducible refine Below.setCell ?_ ?_ _) | (with_reducible refine below_up ?_ (by assumption)) | go_size))) hn ?_; intro A1 c1 w3 hP1 hb3; obtain ⟨hc, hf⟩ := bcell hb3; have hz := (hb3).size; (try simp at hz); have hz2 : w.heap.size < (w3).heap.size := (by omega); (try have hq1 : w.heap.size + 1 < (w3).heap.size := (by omega)); (try have hq2 : w.heap.size + 1 + 1 < (w3).heap.size := (by omega)); (try have hq3 : w.heap.size + 1 + 1 + 1 < (w3).heap.size := (by omega)))
      refine (HX.out G' S' gc' sc' A1 c1 _ (HL.out.below (by repeat' (first | (with_reducible exact Below.refl _ _) | (with_reducible assumption) | (with_reducible refine Below.alloc ?_ ?_ _) | (with_reducible refine Below.drew ?_) | (with_reducible refine below_drewN ?_ _) | (with_reducible refine Below.setCell ?_ ?_ _) | (with_reducible refine below_up ?_ (by assumption)) | go_size))) (HO.out.below (by repeat' (first | (with_reducible exact Below.refl _ _) | (with_reducible assumption) | (with_reducible refine Below.alloc ?_ ?_ _) | (with_reducible refine Below.drew ?_) | (with_reducible refine below_drewN ?_ _) | (with_reducible refine Below.setCell ?_ ?_ _) | (with_reducible refine below_up ?_ (by assumption)) | go_size))) (hP1.below (by repeat' (first | (with_reducible exact Below.refl _ _) | (with_reducible assumption) | (with_reducible refine Below.alloc ?_ ?_ _) | (with_reducible refine Below.drew ?_) | (with_reducible refine below_drewN ?_ _) | (with_reducible refine Below.setCell ?_ ?_ _) | (with_reducible refine below_up ?_ (by assumption)) | go_size)))).mono ?_
      rintro e w4 ⟨Ar, cr, rfl, hOr, hb4⟩
      obtain ⟨hc, hf⟩ := bcell hb4; have hz := (hb4).size; (try simp at hz); have hz2 : w.heap.size < (w4).heap.size := (by omega); (try have hq1 : w.heap.size + 1 < (w4).heap.size := (by omega)); (try have hq2 : w.heap.size + 1 + 1 < (w4).heap.size := (by omega)); (try have hq3 : w.heap.size + 1 + 1 + 1 < (w4).heap.size := (by omega))
      have hp4 : w3.heap.size < w4.heap.size := by omega
      go_wp2_with fail
      refine (HY.out _ (HT.out.below (by repeat' (first | (with_reducible exact Below.refl _ _) | (with_reducible assumption) | (with_reducible refine Below.alloc ?_ ?_ _) | (with_reducible refine Below.drew ?_) | (with_reducible refine below_drewN ?_ _) | (with_reducible refine Below.setCell ?_ ?_ _) | (with_reducible refine below_up ?_ (by assumption)) | go_size))) (HP.out.below (by repeat' (first | (with_reducible exact Below.refl _ _) | (with_reducible assumption) | (with_reducible refine Below.alloc ?_ ?_ _) | (with_reducible refine Below.drew ?_) | (with_reducible refine below_drewN ?_ _) | (with_reducible refine Below.setCell ?_ ?_ _) | (with_reducible refine below_up ?_ (by assumption)) | go_size)))).mono ?_
      rintro e w5 ⟨As, cs, rfl, hOs, hb5⟩
      obtain ⟨hc, hf⟩ := bcell hb5; have hz := (hb5).size; (try simp at hz); have hz2 : w.heap.size < (w5).heap.size := (by omega); (try have hq1 : w.heap.size + 1 < (w5).heap.size := (by omega)); (try have hq2 : w.heap.size + 1 + 1 < (w5).heap.size := (by omega)); (try have hq3 : w.heap.size + 1 + 1 + 1 < (w5).heap.size := (by omega))
      have hp5 : w3.heap.size < w5.heap.size := by omega
      have HI := Lib.hid (hOr.ints.below hb5)
      have HJ := Lib.hid (hOs.ints)
      have HQ := Lib.hid (hP1.below (show Below w3.heap.size w3 w5 from (by repeat' (first | (with_reducible exact Below.refl _ _) | (with_reducible assumption) | (with_reducible refine Below.alloc ?_ ?_ _) | (with_reducible refine Below.drew ?_) | (with_reducible refine below_drewN ?_ _) | (with_reducible refine Below.setCell ?_ ?_ _) | (with_reducible refine below_up ?_ (by assumption)) | go_size))))
      clear hOr hOs hP1
      go_wp2_with fail
      have HB1 := Lib.hid (show (w5.cell? ⟨w.heap.size, 0, none⟩ = some (.int .i64 t.bg) ∧ w5.cell? ⟨w.heap.size, 1, none⟩ = some (.int .i64 t.bs) ∧ w5.cell? ⟨w.heap.size, 2, none⟩ = some (.int .i64 t.price) ∧ w5.cell? ⟨w.heap.size, 3, none⟩ = some (.int .i64 t.worst) ∧ w5.cell? ⟨w.heap.size, 4, none⟩ = some (.int .i64 t.short) ∧ w5.cell? ⟨w.heap.size, 5, none⟩ = some (.slice G t.grades.length gc) ∧ w5.cell? ⟨w.heap.size, 6, none⟩ = some (.slice S t.staples.length sc) ∧ w5.cell? ⟨w.heap.size, 7, none⟩ = some (.int .i64 t.dlo) ∧ w5.cell? ⟨w.heap.size, 8, none⟩ = some (.int .i64 t.dhi) ∧ w5.cell? ⟨w.heap.size, 9, none⟩ = some (.int .i64 t.bales) ∧ w5.cell? ⟨w.heap.size, 10, none⟩ = some (.int .i64 t.fee)) by
        refine ⟨?_, ?_, ?_, ?_, ?_, ?_, ?_, ?_, ?_, ?_, ?_⟩
        all_goals first | (simp [*, go_sem]; done) | (simp (disch := (first | omega | (simp only [World.size_alloc, World.size_drew, World.size_setCell]; omega) | (simp; done))) [*, go_sem]; done))
      have HB2 := Lib.hid (show (w5.cell? ⟨w3.heap.size, 0, none⟩ = some (.int .i64 t.bg) ∧ w5.cell? ⟨w3.heap.size, 1, none⟩ = some (.int .i64 t.bs) ∧ w5.cell? ⟨w3.heap.size, 2, none⟩ = some (.int .i64 t.price) ∧ w5.cell? ⟨w3.heap.size, 3, none⟩ = some (.int .i64 t.worst) ∧ w5.cell? ⟨w3.heap.size, 4, none⟩ = some (.int .i64 t.short) ∧ w5.cell? ⟨w3.heap.size, 5, none⟩ = some (.slice G' t.grades.length gc') ∧ w5.cell? ⟨w3.heap.size, 6, none⟩ = some (.slice S' t.staples.length sc') ∧ w5.cell? ⟨w3.heap.size, 7, none⟩ = some (.int .i64 t.dlo) ∧ w5.cell? ⟨w3.heap.size, 8, none⟩ = some (.int .i64 t.dhi) ∧ w5.cell? ⟨w3.heap.size, 9, none⟩ = some (.int .i64 t.bales) ∧ w5.cell? ⟨w3.heap.size, 10, none⟩ = some (.int .i64 t.fee)) by
        refine ⟨?_, ?_, ?_, ?_, ?_, ?_, ?_, ?_, ?_, ?_, ?_⟩
        all_goals first | (simp [*, go_sem]; done) | (simp (disch := (first | omega | (simp only [World.size_alloc, World.size_drew, World.size_setCell]; omega) | (simp; done))) [*, go_sem]; done))
      have HO2 := Lib.hid (HO.out.below (show Below w2.heap.size w2 w5 from (by repeat' (first | (with_reducible exact Below.refl _ _) | (with_reducible assumption) | (with_reducible refine Below.alloc ?_ ?_ _) | (with_reducible refine Below.drew ?_) | (with_reducible refine below_drewN ?_ _) | (with_reducible refine Below.setCell ?_ ?_ _) | (with_reducible refine below_up ?_ (by assumption)) | go_size))))
      have hbw : Below w.heap.size w w5 := (by repeat' (first | (with_reducible exact Below.refl _ _) | (with_reducible assumption) | (with_reducible refine Below.alloc ?_ ?_ _) | (with_reducible refine Below.drew ?_) | (with_reducible refine below_drewN ?_ _) | (with_reducible refine Below.setCell ?_ ?_ _) | (with_reducible refine below_up ?_ (by assumption)) | go_size))
      have hz2 : w.heap.size < w5.heap.size := by omega
      clear hb1 hb2 hb3 hb4 hb5 HX HY HG HL HO
      go_loopw [47] (fun i wr => ∃ k : Nat, k ≤ l.length ∧ i = .int .i64 k ∧ Below w5.heap.size w5 wr) (fun i _ => l.length - (intOf i).toNat)
      case atStart => exact ⟨0, Nat.zero_le _, rfl, Below.refl _ _⟩
      case round =>
        obtain ⟨k, hk, rfl, hbr⟩ := hrel
        obtain ⟨hc, hf⟩ := bcell hbr
        have hz := hbr.size
        by_cases hlt : k < l.length
        · have hlt2 : (k : Int) < l.length := by omega
          obtain ⟨b, off, rfl, hb, hcx⟩ := (HP.out.below (below_up hbw hbr)) (by omega)
          obtain ⟨p1, p2⟩ := hcx k hlt
          obtain ⟨b', off', rfl, hb', hcy⟩ := (HQ.out.below hbr) (by omega)
          obtain ⟨q1, q2⟩ := hcy k hlt
          clear hcx hcy
          generalize (nth l k).1 = x at p1 q1
          generalize (nth l k).2 = y at p2 q2
          have hkw : IntKind.i64.wrap ((k : Int) + 1) = (k : Int) + 1 := IntWalk.i64_in _ (by omega)
          go_wp2
          go_quiet (fail)
          go_wp2
          go_roundw
          case rel => exact ⟨k + 1, by omega, by go_num, (by repeat' (first | (with_reducible exact Below.refl _ _) | (with_reducible assumption) | (with_reducible refine Below.alloc ?_ ?_ _) | (with_reducible refine Below.drew ?_) | (with_reducible refine below_drewN ?_ _) | (with_reducible refine Below.setCell ?_ ?_ _) | (with_reducible refine below_up ?_ (by assumption)) | go_size))⟩
          case measure => simp [intOf]; omega
        · have hke : k = l.length := by omega
          subst hke
          have hlt2 : ¬ ((l.length : Nat) : Int) < l.length := by omega
          obtain ⟨c0, c1, c2, c3, c4, c5, c6, c7, c8, c9, c10⟩ := HB1.out
          obtain ⟨d0, d1, d2, d3, d4, d5, d6, d7, d8, d9, d10⟩ := HB2.out
          go_wp2_with (first
            | (go_at_call 31; refine (sameIntsR_any r.2.1 r.2.1 Ar As cr cs _ (HI.out.below (by repeat' (first | (with_reducible exact Below.refl _ _) | (with_reducible assumption) | (with_reducible refine Below.alloc ?_ ?_ _) | (with_reducible refine Below.drew ?_) | (with_reducible refine below_drewN ?_ _) | (with_reducible refine Below.setCell ?_ ?_ _) | (with_reducible refine below_up ?_ (by assumption)) | go_size))) (HJ.out.below (by repeat' (first | (with_reducible exact Below.refl _ _) | (with_reducible assumption) | (with_reducible refine Below.alloc ?_ ?_ _) | (with_reducible refine Below.drew ?_) | (with_reducible refine below_drewN ?_ _) | (with_reducible refine Below.setCell ?_ ?_ _) | (with_reducible refine below_up ?_ (by assumption)) | go_size))) (by unfold maxLen; omega) (by unfold maxLen; omega)).mono ?_; rw [sameB_refl]; rintro e w' ⟨rfl, hb⟩; obtain ⟨hc', hf'⟩ := bcell hb; have hz' := hb.size; have hp1 : w.heap.size < wr.heap.size := (by omega); have hp3 : w3.heap.size < wr.heap.size := (by omega))
            | (go_at_call 28; refine (sameR_same t G' S' gc' sc' G S gc sc _ (HO2.out.below (by repeat' (first | (with_reducible exact Below.refl _ _) | (with_reducible assumption) | (with_reducible refine Below.alloc ?_ ?_ _) | (with_reducible refine Below.drew ?_) | (with_reducible refine below_drewN ?_ _) | (with_reducible refine Below.setCell ?_ ?_ _) | (with_reducible refine below_up ?_ (by assumption)) | go_size))) (HT.out.below (by repeat' (first | (with_reducible exact Below.refl _ _) | (with_reducible assumption) | (with_reducible refine Below.alloc ?_ ?_ _) | (with_reducible refine Below.drew ?_) | (with_reducible refine below_drewN ?_ _) | (with_reducible refine Below.setCell ?_ ?_ _) | (with_reducible refine below_up ?_ (by assumption)) | go_size)))).mono ?_; rintro e w'' ⟨rfl, hb2⟩))
          go_ret
          exact ⟨rfl, (by repeat' (first | (with_reducible exact Below.refl _ _) | (with_reducible assumption) | (with_reducible refine Below.alloc ?_ ?_ _) | (with_reducible refine Below.drew ?_) | (with_reducible refine below_drewN ?_ _) | (with_reducible refine Below.setCell ?_ ?_ _) | (with_reducible refine below_up ?_ (by assumption)) | go_size))⟩
  · have HG := Lib.hid hgr
    clear hL hT hgr hA
    go_enter Tryd.func4, Tryd.ntmps4
    go_wp2_with (go_at_call 20; refine (greatR_any t G S gc sc _).mono ?_; rw [HG.out]; rintro e w1 ⟨rfl, hb1⟩)
    go_ret
    exact ⟨rfl, (by repeat' (first | (with_reducible exact Below.refl _ _) | (with_reducible assumption) | (with_reducible refine Below.alloc ?_ ?_ _) | (with_reducible refine Below.drew ?_) | (with_reducible refine below_drewN ?_ _) | (with_reducible refine Below.setCell ?_ ?_ _) | (with_reducible refine below_up ?_ (by assumption)) | go_size))⟩
end Go.Proofs.YtppejcmjjjfamaaDoor
