/- terms.Total: the walk. -/
import Derived.Test.YtppejcmjjjfamaaDoorTotalPlain
import Derived.Test.YtppejcmjjjfamaaDoorInvoice
import Derived.Test.YtppejcmjjjfamaaDoorAppend
import Derived.Test.YtppejcmjjjfamaaDoorTwin
import Derived.OwnWalk
namespace Go.Proofs.YtppejcmjjjfamaaDoor
open Go.RowKit

theorem ownsRow_ints {w : World} {base : Nat} {e : TypeId} {v : Value} {xs : List Int} (h : w.ownsRow base e 1 v xs.length (xs.map (Value.int .i64))) :
    ∃ A c, v = .slice A xs.length c ∧ OwnInts w base e A xs := by
  rcases h.2 with ⟨rfl, h0⟩ | ⟨g, cap, cur, rfl, hb, hg, hn, _, hcs, htake⟩
  · exact ⟨none, 0, by rw [h0], fun hh => by omega⟩
  · refine ⟨_, _, rfl, fun _ => ⟨g, cur, rfl, hb, hg, fun i hi => ?_⟩⟩
    have h1 : (cur.toList.take (xs.length * 1))[i]? = (xs.map (Value.int .i64))[i]? := by rw [htake]
    rw [List.getElem?_take, if_pos (by omega), List.getElem?_map, List.getElem?_eq_getElem hi] at h1
    rw [nth_lt hi]
    simpa using h1
theorem OwnInts.mono {w : World} {b b' : Nat} {e : TypeId} {A : Option Addr} {xs : List Int} (h : OwnInts w b e A xs) (hb : b' ≤ b) : OwnInts w b' e A xs := fun h0 => by
  obtain ⟨g, cur, e1, e2, e3, e4⟩ := h h0
  exact ⟨g, cur, e1, Nat.le_trans hb e2, e3, e4⟩
theorem ownsRow_below {w w' : World} {base : Nat} {e : TypeId} {size : Nat} {v : Value} {n : Nat} {xs : List Value} (h : w.ownsRow base e size v n xs) (hb : Below w.heap.size w w') : w'.ownsRow base e size v n xs := by
  refine ⟨h.1, ?_⟩
  rcases h.2 with h2 | ⟨g, cap, cur, hv, hg, hh, r⟩
  · exact Or.inl h2
  · refine Or.inr ⟨g, cap, cur, hv, hg, ?_, r⟩
    have hlt : g < w.heap.size := (Array.getElem?_eq_some_iff.1 hh).1
    rw [hb.block g hlt]; exact hh
/-- what Total leaves -/
def TotalPost (w : World) (r : Int × List Int × Int) (e : Ending) (w' : World) : Prop :=
  ∃ A c, e = .returned (.tuple #[.int .i64 r.1, .slice A r.2.1.length c, .int .i64 r.2.2]) ∧ OwnInts w' w.heap.size 3 A r.2.1 ∧ Below w.heap.size w w'
theorem totalPost_err {w w' : World} {e : Int} (hb : Below w.heap.size w w') : TotalPost w (0, [], e) (.returned (.tuple #[.int .i64 0, .slice none 0 0, .int .i64 e])) w' :=
  ⟨none, 0, rfl, fun h => by simp at h, hb⟩

set_option maxHeartbeats 4000000 in
theorem totalT_any (t : TT) (G S : Option Addr) (gc sc : Nat) (m : Int) (l : List (Int × Int)) (A : Option Addr) (c : Nat) (w : World) (hL : Laid w) (hT : TermsA w G S t) (hA : PairsA w A l) (hn : l.length ≤ 1000000) :
    Calls Tryd.prog 29 #[.agg #[.int .i64 t.bg, .int .i64 t.bs, .int .i64 t.price, .int .i64 t.worst, .int .i64 t.short, .slice G t.grades.length gc, .slice S t.staples.length sc, .int .i64 t.dlo, .int .i64 t.dhi, .int .i64 t.bales, .int .i64 t.fee], .int .i64 m, .slice A l.length c] w (TotalPost w (totalP t m l)) := by
  have HC := Lib.hid (fun W (hW : Below w.heap.size w W) => checkT_any t G S gc sc W (hL.below hW) (hT.below hW))
  have HI := Lib.hid (fun g s W (hW : Below w.heap.size w W) => invoiceT_any t G S gc sc g s W (hL.below hW) (hT.below hW))
  have HA := Lib.hid hA
  clear hL hT hA
  cases hok : okT t
  · have Hf := Lib.hid (show totalP t m l = (0, [], 40) by simp [totalP, hok])
    have HO := Lib.hid (show errT (okT t) = 40 by simp [errT, hok])
    clear hok
    go_enter Tryd.func29, Tryd.ntmps29
    go_wp2_with (go_at_call 26; refine (HC.out _ (by repeat' (first | (with_reducible exact Below.refl _ _) | (with_reducible assumption) | (with_reducible refine Below.alloc ?_ ?_ _) | (with_reducible refine Below.drew ?_) | (with_reducible refine below_drewN ?_ _) | (with_reducible refine Below.setCell ?_ ?_ _) | (with_reducible refine below_up ?_ (by assumption)) | go_size))).mono ?_; rw [HO.out]; rintro e w1 ⟨rfl, hb1⟩)
    go_ret3
    rw [Hf.out]
    exact totalPost_err (by repeat' (first | (with_reducible exact Below.refl _ _) | (with_reducible assumption) | (with_reducible refine Below.alloc ?_ ?_ _) | (with_reducible refine Below.drew ?_) | (with_reducible refine below_drewN ?_ _) | (with_reducible refine Below.setCell ?_ ?_ _) | (with_reducible refine below_up ?_ (by assumption)) | go_size))
  have HO := Lib.hid (show errT (okT t) = 0 by simp [errT, hok])
  have Ht := Lib.hid (okT.tabs hok)
  cases hdue : dueB t m
  · have Hf := Lib.hid (show totalP t m l = (0, [], 44) by simp [totalP, hok, hdue])
    have HD := Lib.hid hdue
    clear hok hdue
    go_enter Tryd.func29, Tryd.ntmps29
    go_wp2_with (first
      | (go_at_call 26; refine (HC.out _ (by repeat' (first | (with_reducible exact Below.refl _ _) | (with_reducible assumption) | (with_reducible refine Below.alloc ?_ ?_ _) | (with_reducible refine Below.drew ?_) | (with_reducible refine below_drewN ?_ _) | (with_reducible refine Below.setCell ?_ ?_ _) | (with_reducible refine below_up ?_ (by assumption)) | go_size))).mono ?_; rw [HO.out]; rintro e w1 ⟨rfl, hb1⟩; obtain ⟨hc, hf⟩ := bcell hb1; have hz := (hb1).size; (try simp at hz); have hz2 : w.heap.size < (w1).heap.size := (by omega); (try have hq1 : w.heap.size + 1 < (w1).heap.size := (by omega)); (try have hq2 : w.heap.size + 1 + 1 < (w1).heap.size := (by omega)); (try have hq3 : w.heap.size + 1 + 1 + 1 < (w1).heap.size := (by omega)))
      | (go_at_call 82; refine (dueT_any t G S gc sc m _).mono ?_; rw [HD.out]; rintro e w2 ⟨rfl, hb2⟩; obtain ⟨hc, hf⟩ := bcell hb2; have hz := (hb2).size; (try simp at hz); have hz2 : w.heap.size < (w2).heap.size := (by omega); (try have hq1 : w.heap.size + 1 < (w2).heap.size := (by omega)); (try have hq2 : w.heap.size + 1 + 1 < (w2).heap.size := (by omega)); (try have hq3 : w.heap.size + 1 + 1 + 1 < (w2).heap.size := (by omega))))
    go_ret3
    rw [Hf.out]
    exact totalPost_err (by repeat' (first | (with_reducible exact Below.refl _ _) | (with_reducible assumption) | (with_reducible refine Below.alloc ?_ ?_ _) | (with_reducible refine Below.drew ?_) | (with_reducible refine below_drewN ?_ _) | (with_reducible refine Below.setCell ?_ ?_ _) | (with_reducible refine below_up ?_ (by assumption)) | go_size))
  have HD := Lib.hid hdue
  by_cases hlen : t.bales < l.length
  · have Hf := Lib.hid (show totalP t m l = (0, [], 4) by simp [totalP, hok, hdue, hlen])
    have hlen' : decide (t.bales < (l.length : Int)) = true := by simp [hlen]
    clear hok hdue
    go_enter Tryd.func29, Tryd.ntmps29
    go_wp2_with (first
      | (go_at_call 26; refine (HC.out _ (by repeat' (first | (with_reducible exact Below.refl _ _) | (with_reducible assumption) | (with_reducible refine Below.alloc ?_ ?_ _) | (with_reducible refine Below.drew ?_) | (with_reducible refine below_drewN ?_ _) | (with_reducible refine Below.setCell ?_ ?_ _) | (with_reducible refine below_up ?_ (by assumption)) | go_size))).mono ?_; rw [HO.out]; rintro e w1 ⟨rfl, hb1⟩; obtain ⟨hc, hf⟩ := bcell hb1; have hz := (hb1).size; (try simp at hz); have hz2 : w.heap.size < (w1).heap.size := (by omega); (try have hq1 : w.heap.size + 1 < (w1).heap.size := (by omega)); (try have hq2 : w.heap.size + 1 + 1 < (w1).heap.size := (by omega)); (try have hq3 : w.heap.size + 1 + 1 + 1 < (w1).heap.size := (by omega)))
      | (go_at_call 82; refine (dueT_any t G S gc sc m _).mono ?_; rw [HD.out]; rintro e w2 ⟨rfl, hb2⟩; obtain ⟨hc, hf⟩ := bcell hb2; have hz := (hb2).size; (try simp at hz); have hz2 : w.heap.size < (w2).heap.size := (by omega); (try have hq1 : w.heap.size + 1 < (w2).heap.size := (by omega)); (try have hq2 : w.heap.size + 1 + 1 < (w2).heap.size := (by omega)); (try have hq3 : w.heap.size + 1 + 1 + 1 < (w2).heap.size := (by omega))))
    go_ret3
    rw [Hf.out]
    exact totalPost_err (by repeat' (first | (with_reducible exact Below.refl _ _) | (with_reducible assumption) | (with_reducible refine Below.alloc ?_ ?_ _) | (with_reducible refine Below.drew ?_) | (with_reducible refine below_drewN ?_ _) | (with_reducible refine Below.setCell ?_ ?_ _) | (with_reducible refine below_up ?_ (by assumption)) | go_size))
  have Hf := Lib.hid (show totalP t m l = (if errTo l l.length ≠ 0 then (0, [], errTo l l.length) else (sumTo t l l.length, refTo t l l.length, 0)) by simp [totalP, hok, hdue, hlen])
  have hlen' : decide (t.bales < (l.length : Int)) = false := by simp [hlen]
  have HK := Lib.hid hok
  clear hok hdue hlen
  go_enter Tryd.func29, Tryd.ntmps29
  go_wp2_with (first
      | (go_at_call 26; refine (HC.out _ (by repeat' (first | (with_reducible exact Below.refl _ _) | (with_reducible assumption) | (with_reducible refine Below.alloc ?_ ?_ _) | (with_reducible refine Below.drew ?_) | (with_reducible refine below_drewN ?_ _) | (with_reducible refine Below.setCell ?_ ?_ _) | (with_reducible refine below_up ?_ (by assumption)) | go_size))).mono ?_; rw [HO.out]; rintro e w1 ⟨rfl, hb1⟩; obtain ⟨hc, hf⟩ := bcell hb1; have hz := (hb1).size; (try simp at hz); have hz2 : w.heap.size < (w1).heap.size := (by omega); (try have hq1 : w.heap.size + 1 < (w1).heap.size := (by omega)); (try have hq2 : w.heap.size + 1 + 1 < (w1).heap.size := (by omega)); (try have hq3 : w.heap.size + 1 + 1 + 1 < (w1).heap.size := (by omega)))
      | (go_at_call 82; refine (dueT_any t G S gc sc m _).mono ?_; rw [HD.out]; rintro e w2 ⟨rfl, hb2⟩; obtain ⟨hc, hf⟩ := bcell hb2; have hz := (hb2).size; (try simp at hz); have hz2 : w.heap.size < (w2).heap.size := (by omega); (try have hq1 : w.heap.size + 1 < (w2).heap.size := (by omega)); (try have hq2 : w.heap.size + 1 + 1 < (w2).heap.size := (by omega)); (try have hq3 : w.heap.size + 1 + 1 + 1 < (w2).heap.size := (by omega))))
  clear HD HO hlen'
  go_loopw [6, 7, 34] (fun s v i wr => ∃ k : Nat, k ≤ l.length ∧ i = .int .i64 k ∧ Hid (errTo l k = 0) ∧ s = .int .i64 (sumTo t l k) ∧ wr.ownsRow (w.heap.size + 1) 3 1 v (refTo t l k).length ((refTo t l k).map (Value.int .i64)) ∧ (wr.cell? ⟨w.heap.size, 0, none⟩ = some (.int .i64 t.bg) ∧ wr.cell? ⟨w.heap.size, 1, none⟩ = some (.int .i64 t.bs) ∧ wr.cell? ⟨w.heap.size, 2, none⟩ = some (.int .i64 t.price) ∧ wr.cell? ⟨w.heap.size, 3, none⟩ = some (.int .i64 t.worst) ∧ wr.cell? ⟨w.heap.size, 4, none⟩ = some (.int .i64 t.short) ∧ wr.cell? ⟨w.heap.size, 5, none⟩ = some (.slice G t.grades.length gc) ∧ wr.cell? ⟨w.heap.size, 6, none⟩ = some (.slice S t.staples.length sc) ∧ wr.cell? ⟨w.heap.size, 7, none⟩ = some (.int .i64 t.dlo) ∧ wr.cell? ⟨w.heap.size, 8, none⟩ = some (.int .i64 t.dhi) ∧ wr.cell? ⟨w.heap.size, 9, none⟩ = some (.int .i64 t.bales) ∧ wr.cell? ⟨w.heap.size, 10, none⟩ = some (.int .i64 t.fee)) ∧ w.heap.size < wr.heap.size ∧ Below w.heap.size w wr) (fun _ _ i _ => l.length - (intOf i).toNat)
  case atStart =>
    refine ⟨0, Nat.zero_le _, rfl, rfl, rfl, World.ownsRow_nil _ _ _ _, ⟨?_, ?_, ?_, ?_, ?_, ?_, ?_, ?_, ?_, ?_, ?_⟩, by assumption, (by repeat' (first | (with_reducible exact Below.refl _ _) | (with_reducible assumption) | (with_reducible refine Below.alloc ?_ ?_ _) | (with_reducible refine Below.drew ?_) | (with_reducible refine below_drewN ?_ _) | (with_reducible refine Below.setCell ?_ ?_ _) | (with_reducible refine below_up ?_ (by assumption)) | go_size))⟩
    all_goals first | (simp [*, go_sem]; done) | (simp (disch := (first | omega | (simp only [World.size_alloc, World.size_drew, World.size_setCell]; omega) | (simp; done))) [*, go_sem]; done)
  case round =>
    obtain ⟨k, hk, rfl, he, rfl, hown, ⟨c0, c1, c2, c3, c4, c5, c6, c7, c8, c9, c10⟩, hsz, hbr⟩ := hrel
    by_cases hlt : k < l.length
    · have hlt2 : (k : Int) < l.length := by omega
      obtain ⟨b, off, rfl, hb, hc⟩ := (HA.out.below hbr) (by omega)
      obtain ⟨p1, p2⟩ := hc k hlt
      clear hc
      have HM := Lib.hid (show mayC t (nth l k) = mayB t (nth l k).1 (nth l k).2 from rfl)
      have HV := Lib.hid (show valC t (nth l k) = valueI t (nth l k).1 (nth l k).2 from rfl)
      have HE := Lib.hid (show errCl (nth l k) = errC (nth l k).1 (nth l k).2 from rfl)
      have HI1 := Lib.hid (HI.out (nth l k).1 (nth l k).2)
      generalize (nth l k).1 = x at p1 HM HV HE HI1
      generalize (nth l k).2 = y at p2 HM HV HE HI1
      have hkw : IntKind.i64.wrap ((k : Int) + 1) = (k : Int) + 1 := IntWalk.i64_in _ (by omega)
      have hai : askE t x y = errC x y := by simp [askE, HK.out]
      by_cases h1 : errC x y = 0
      · cases h2 : mayB t x y
        · have Hv := Lib.hid (show invoiceP t x y = (0, 6) by simp [invoiceP, hai, h1, h2])
          have he' := Lib.hid (show errTo l (k + 1) = 0 by simp only [errTo, he.out, if_true]; rw [HE.out]; exact h1)
          have hs' := Lib.hid (show sumTo t l (k + 1) = sumTo t l k by simp [sumTo, HM.out, h2])
          have hr' := Lib.hid (show refTo t l (k + 1) = refTo t l k ++ [(k : Int)] by simp [refTo, HM.out, h2])
          have hlen := refTo_len t l k
          have Hown := Lib.hid (fun W (hW : Below wr.heap.size wr W) => ownsRow_below hown hW)
          obtain ⟨i0, ia, ib, ic, id⟩ := info_parts int_info
          clear h1 h2 hai
          go_upto_region 12 with fail
          go_region_held3 (fun w' => (w'.cell? ⟨w.heap.size, 0, none⟩ = some (.int .i64 t.bg) ∧ w'.cell? ⟨w.heap.size, 1, none⟩ = some (.int .i64 t.bs) ∧ w'.cell? ⟨w.heap.size, 2, none⟩ = some (.int .i64 t.price) ∧ w'.cell? ⟨w.heap.size, 3, none⟩ = some (.int .i64 t.worst) ∧ w'.cell? ⟨w.heap.size, 4, none⟩ = some (.int .i64 t.short) ∧ w'.cell? ⟨w.heap.size, 5, none⟩ = some (.slice G t.grades.length gc) ∧ w'.cell? ⟨w.heap.size, 6, none⟩ = some (.slice S t.staples.length sc) ∧ w'.cell? ⟨w.heap.size, 7, none⟩ = some (.int .i64 t.dlo) ∧ w'.cell? ⟨w.heap.size, 8, none⟩ = some (.int .i64 t.dhi) ∧ w'.cell? ⟨w.heap.size, 9, none⟩ = some (.int .i64 t.bales) ∧ w'.cell? ⟨w.heap.size, 10, none⟩ = some (.int .i64 t.fee)) ∧ (w'.cell? ⟨b, off + k * 2, none⟩ = some (.int .i64 x) ∧ w'.cell? ⟨b, off + k * 2 + 1, none⟩ = some (.int .i64 y))) (first | (simp [*, go_sem]; done) | (simp (disch := (first | omega | (simp only [World.size_alloc, World.size_drew, World.size_setCell]; omega) | (simp; done))) [*, go_sem]; done)) (first
            | (go_at_call 24; refine (HI1.out _ (by repeat' (first | (with_reducible exact Below.refl _ _) | (with_reducible assumption) | (with_reducible refine Below.alloc ?_ ?_ _) | (with_reducible refine Below.drew ?_) | (with_reducible refine below_drewN ?_ _) | (with_reducible refine Below.setCell ?_ ?_ _) | (with_reducible refine below_up ?_ (by assumption)) | go_size))).mono ?_; rw [Hv.out]; rintro e w' ⟨rfl, hb1⟩; obtain ⟨hc, hf⟩ := bcell hb1; have hz := (hb1).size; (try simp at hz); have hz2 : w.heap.size < (w').heap.size := (by omega); (try have hq1 : w.heap.size + 1 < (w').heap.size := (by omega)); (try have hq2 : w.heap.size + 1 + 1 < (w').heap.size := (by omega)); (try have hq3 : w.heap.size + 1 + 1 + 1 < (w').heap.size := (by omega)); have hcw0 := fun o => hc (w.heap.size) o (by first | assumption | omega | (simp; done) | (simp; omega)); have hcw1 := fun o => hc (b) o (by first | assumption | omega | (simp; done) | (simp; omega))))
          all_goals go_wp2_with (at_builtin; refine wpList_append_own _ rfl _ _ 24 rfl (w.heap.size + 1) 3 i0 (.int .i64 0) 1 8 Tryd.underlying24 ia ib ic id rfl (by decide) u7 _ _ rfl (Hown.out _ (by repeat' (first | (with_reducible exact Below.refl _ _) | (with_reducible assumption) | (with_reducible refine Below.alloc ?_ ?_ _) | (with_reducible refine Below.drew ?_) | (with_reducible refine below_drewN ?_ _) | (with_reducible refine Below.setCell ?_ ?_ _) | (with_reducible refine below_up ?_ (by assumption)) | go_size))) ⟨_, 0, none⟩ 1 1 [.int .i64 (k : Int)] rfl rfl (cell_one_new _ _ _) (fun x hx => by simp at hx; subst hx; rfl) (by unfold maxLen; omega) (by omega) (by simp; omega) ?_; intro v' w3 hown' hgrow3 hnil3)
          go_roundw
          case rel =>
            have hb2 : Below wr.heap.size wr (w'.alloc (.cells #[.int .i64 (k : Int)] 3)) := (by repeat' (first | (with_reducible exact Below.refl _ _) | (with_reducible assumption) | (with_reducible refine Below.alloc ?_ ?_ _) | (with_reducible refine Below.drew ?_) | (with_reducible refine below_drewN ?_ _) | (with_reducible refine Below.setCell ?_ ?_ _) | (with_reducible refine below_up ?_ (by assumption)) | go_size))
            have hb3 : Below (w.heap.size + 1) wr w3 := (hb2.mono (by omega)).grown hgrow3 (by have := hb2.size; omega) (fun g hg => (hown.lt g hg).1)
            have hcw := fun o => hb3.cell (p := ⟨w.heap.size, o, none⟩) (by simp)
            refine ⟨k + 1, by omega, by go_num, he', by rw [hs'.out], by rw [hr'.out]; simpa using hown', ⟨?_, ?_, ?_, ?_, ?_, ?_, ?_, ?_, ?_, ?_, ?_⟩, by have := hb3.size; omega, hbr.trans (hb3.mono (by omega))⟩
            all_goals rw [hcw]
            all_goals first | with_reducible exact c0 | with_reducible exact c1 | with_reducible exact c2 | with_reducible exact c3 | with_reducible exact c4 | with_reducible exact c5 | with_reducible exact c6 | with_reducible exact c7 | with_reducible exact c8 | with_reducible exact c9 | with_reducible exact c10
          case measure => simp [intOf]; omega
        · have Hv := Lib.hid (show invoiceP t x y = (valueI t x y, 0) by simp [invoiceP, hai, h1, h2])
          have he' := Lib.hid (show errTo l (k + 1) = 0 by simp only [errTo, he.out, if_true]; rw [HE.out]; exact h1)
          have hs' := Lib.hid (show sumTo t l (k + 1) = sumTo t l k + valueI t x y by simp [sumTo, HM.out, HV.out, h2])
          have hr' := Lib.hid (show refTo t l (k + 1) = refTo t l k by simp [refTo, HM.out, h2])
          have hw1 : IntKind.i64.wrap (sumTo t l k + valueI t x y) = sumTo t l k + valueI t x y := IntWalk.i64_in _ (by
            obtain ⟨g1, g2⟩ := errC_zero h1
            have a1 := Ht.out.val g1 g2
            have a2 := sumTo_bd Ht.out he.out
            omega)
          have Hown := Lib.hid (fun W (hW : Below wr.heap.size wr W) => ownsRow_below hown hW)
          clear h1 h2 hai
          go_upto_region 12 with fail
          go_region_held3 (fun w' => (w'.cell? ⟨w.heap.size, 0, none⟩ = some (.int .i64 t.bg) ∧ w'.cell? ⟨w.heap.size, 1, none⟩ = some (.int .i64 t.bs) ∧ w'.cell? ⟨w.heap.size, 2, none⟩ = some (.int .i64 t.price) ∧ w'.cell? ⟨w.heap.size, 3, none⟩ = some (.int .i64 t.worst) ∧ w'.cell? ⟨w.heap.size, 4, none⟩ = some (.int .i64 t.short) ∧ w'.cell? ⟨w.heap.size, 5, none⟩ = some (.slice G t.grades.length gc) ∧ w'.cell? ⟨w.heap.size, 6, none⟩ = some (.slice S t.staples.length sc) ∧ w'.cell? ⟨w.heap.size, 7, none⟩ = some (.int .i64 t.dlo) ∧ w'.cell? ⟨w.heap.size, 8, none⟩ = some (.int .i64 t.dhi) ∧ w'.cell? ⟨w.heap.size, 9, none⟩ = some (.int .i64 t.bales) ∧ w'.cell? ⟨w.heap.size, 10, none⟩ = some (.int .i64 t.fee)) ∧ (w'.cell? ⟨b, off + k * 2, none⟩ = some (.int .i64 x) ∧ w'.cell? ⟨b, off + k * 2 + 1, none⟩ = some (.int .i64 y))) (first | (simp [*, go_sem]; done) | (simp (disch := (first | omega | (simp only [World.size_alloc, World.size_drew, World.size_setCell]; omega) | (simp; done))) [*, go_sem]; done)) (first
            | (go_at_call 24; refine (HI1.out _ (by repeat' (first | (with_reducible exact Below.refl _ _) | (with_reducible assumption) | (with_reducible refine Below.alloc ?_ ?_ _) | (with_reducible refine Below.drew ?_) | (with_reducible refine below_drewN ?_ _) | (with_reducible refine Below.setCell ?_ ?_ _) | (with_reducible refine below_up ?_ (by assumption)) | go_size))).mono ?_; rw [Hv.out]; rintro e w' ⟨rfl, hb1⟩; obtain ⟨hc, hf⟩ := bcell hb1; have hz := (hb1).size; (try simp at hz); have hz2 : w.heap.size < (w').heap.size := (by omega); (try have hq1 : w.heap.size + 1 < (w').heap.size := (by omega)); (try have hq2 : w.heap.size + 1 + 1 < (w').heap.size := (by omega)); (try have hq3 : w.heap.size + 1 + 1 + 1 < (w').heap.size := (by omega)); have hcw0 := fun o => hc (w.heap.size) o (by first | assumption | omega | (simp; done) | (simp; omega)); have hcw1 := fun o => hc (b) o (by first | assumption | omega | (simp; done) | (simp; omega))))
          all_goals go_wp2
          go_roundw
          case rel =>
            refine ⟨k + 1, by omega, by go_num, he', by rw [hs'.out], (by rw [hr'.out]; exact Hown.out _ (by repeat' (first | (with_reducible exact Below.refl _ _) | (with_reducible assumption) | (with_reducible refine Below.alloc ?_ ?_ _) | (with_reducible refine Below.drew ?_) | (with_reducible refine below_drewN ?_ _) | (with_reducible refine Below.setCell ?_ ?_ _) | (with_reducible refine below_up ?_ (by assumption)) | go_size))), ⟨?_, ?_, ?_, ?_, ?_, ?_, ?_, ?_, ?_, ?_, ?_⟩, ?_, (by repeat' (first | (with_reducible exact Below.refl _ _) | (with_reducible assumption) | (with_reducible refine Below.alloc ?_ ?_ _) | (with_reducible refine Below.drew ?_) | (with_reducible refine below_drewN ?_ _) | (with_reducible refine Below.setCell ?_ ?_ _) | (with_reducible refine below_up ?_ (by assumption)) | go_size))⟩
            all_goals first | (simp [*, go_sem]; done) | (simp (disch := (first | omega | (simp only [World.size_alloc, World.size_drew, World.size_setCell]; omega) | (simp; done))) [*, go_sem]; done) | omega
          case measure => simp [intOf]; omega
      · have Hv := Lib.hid (show invoiceP t x y = (0, errC x y) by simp [invoiceP, hai, h1])
        have h6 : (errC x y == 6) = false := by simp only [errC]; split <;> (try split) <;> simp
        have h0 : (errC x y == 0) = false := by simp [h1]
        have Hf' := Lib.hid (show totalP t m l = (0, [], errC x y) by
          have h9 : errTo l l.length = errC x y := by rw [errTo_first he.out hlt (by rw [HE.out]; exact h1), HE.out]
          rw [Hf.out, h9, if_pos h1])
        clear h1 hai
        go_upto_region 12 with fail
        go_region_held3 (fun w' => (w'.cell? ⟨w.heap.size, 0, none⟩ = some (.int .i64 t.bg) ∧ w'.cell? ⟨w.heap.size, 1, none⟩ = some (.int .i64 t.bs) ∧ w'.cell? ⟨w.heap.size, 2, none⟩ = some (.int .i64 t.price) ∧ w'.cell? ⟨w.heap.size, 3, none⟩ = some (.int .i64 t.worst) ∧ w'.cell? ⟨w.heap.size, 4, none⟩ = some (.int .i64 t.short) ∧ w'.cell? ⟨w.heap.size, 5, none⟩ = some (.slice G t.grades.length gc) ∧ w'.cell? ⟨w.heap.size, 6, none⟩ = some (.slice S t.staples.length sc) ∧ w'.cell? ⟨w.heap.size, 7, none⟩ = some (.int .i64 t.dlo) ∧ w'.cell? ⟨w.heap.size, 8, none⟩ = some (.int .i64 t.dhi) ∧ w'.cell? ⟨w.heap.size, 9, none⟩ = some (.int .i64 t.bales) ∧ w'.cell? ⟨w.heap.size, 10, none⟩ = some (.int .i64 t.fee)) ∧ (w'.cell? ⟨b, off + k * 2, none⟩ = some (.int .i64 x) ∧ w'.cell? ⟨b, off + k * 2 + 1, none⟩ = some (.int .i64 y))) (first | (simp [*, go_sem]; done) | (simp (disch := (first | omega | (simp only [World.size_alloc, World.size_drew, World.size_setCell]; omega) | (simp; done))) [*, go_sem]; done)) (first
          | (go_at_call 24; refine (HI1.out _ (by repeat' (first | (with_reducible exact Below.refl _ _) | (with_reducible assumption) | (with_reducible refine Below.alloc ?_ ?_ _) | (with_reducible refine Below.drew ?_) | (with_reducible refine below_drewN ?_ _) | (with_reducible refine Below.setCell ?_ ?_ _) | (with_reducible refine below_up ?_ (by assumption)) | go_size))).mono ?_; rw [Hv.out]; rintro e w' ⟨rfl, hb1⟩; obtain ⟨hc, hf⟩ := bcell hb1; have hz := (hb1).size; (try simp at hz); have hz2 : w.heap.size < (w').heap.size := (by omega); (try have hq1 : w.heap.size + 1 < (w').heap.size := (by omega)); (try have hq2 : w.heap.size + 1 + 1 < (w').heap.size := (by omega)); (try have hq3 : w.heap.size + 1 + 1 + 1 < (w').heap.size := (by omega)); have hcw0 := fun o => hc (w.heap.size) o (by first | assumption | omega | (simp; done) | (simp; omega)); have hcw1 := fun o => hc (b) o (by first | assumption | omega | (simp; done) | (simp; omega))))
        all_goals go_wp2
        all_goals go_ret3
        all_goals rw [Hf'.out]
        all_goals exact totalPost_err (by repeat' (first | (with_reducible exact Below.refl _ _) | (with_reducible assumption) | (with_reducible refine Below.alloc ?_ ?_ _) | (with_reducible refine Below.drew ?_) | (with_reducible refine below_drewN ?_ _) | (with_reducible refine Below.setCell ?_ ?_ _) | (with_reducible refine below_up ?_ (by assumption)) | go_size))
    · have hke : k = l.length := by omega
      subst hke
      have Hf' := Lib.hid (show totalP t m l = (sumTo t l l.length, refTo t l l.length, 0) by rw [Hf.out]; simp [he.out])
      have hlt2 : ¬ ((l.length : Nat) : Int) < l.length := by omega
      obtain ⟨A1, cc, rfl, hO⟩ := ownsRow_ints hown
      go_wp2_with fail
      go_ret3
      rw [Hf'.out]
      exact ⟨A1, cc, rfl, hO.mono (by omega), hbr⟩
end Go.Proofs.YtppejcmjjjfamaaDoor
