/- terms.spanned and terms.table. -/
import Derived.Test.YtppejcmjjjfamaaDoorIn
import Derived.Test.YtppejcmjjjfamaaDoorPlain
import Derived.Deep.LoopGhost
import Derived.Deep.QuietTactic
import Derived.BigQuiet
namespace Go.Proofs.YtppejcmjjjfamaaDoor
open Go.RowKit

set_option maxHeartbeats 400000 in
theorem spanned_any (a b lo hi : Int) (w : World) :
    Calls Tryd.prog 131 #[.agg #[.int .i64 a, .int .i64 b], .int .i64 lo, .int .i64 hi] w fun e w' => e = .returned (.bool (spanB lo hi a b)) ∧ Below w.heap.size w w' := by
  cases h : inB lo hi a && inB lo hi b
  · have e : spanB lo hi a b = false := by simp [spanB, h]
    rw [e]; clear e
    have H := Lib.hid h
    clear h
    go_enter Tryd.func131, Tryd.ntmps131
    go_wp2_with (go_at_call 92; refine (in_two lo hi a b _ _ _ _ (by simp [go_sem]) (by simp [go_sem]) (by simp [go_sem])).mono ?_; rw [H.out]; rintro e w' ⟨rfl, hb⟩)
    go_ret
    exact ⟨rfl, (by repeat' (first | (with_reducible exact Below.refl _ _) | (with_reducible assumption) | (with_reducible refine Below.alloc ?_ ?_ _) | (with_reducible refine Below.drew ?_) | (with_reducible refine below_drewN ?_ _) | (with_reducible refine Below.setCell ?_ ?_ _) | (with_reducible refine below_up ?_ (by assumption)) | go_size))⟩
  · have e : spanB lo hi a b = decide (a ≤ b) := by simp [spanB, h]
    rw [e]; clear e
    have H := Lib.hid h
    clear h
    go_enter Tryd.func131, Tryd.ntmps131
    go_wp2_with (go_at_call 92; refine (in_two lo hi a b _ _ _ _ (by simp [go_sem]) (by simp [go_sem]) (by simp [go_sem])).mono ?_; rw [H.out]; rintro e w' ⟨rfl, hb⟩; obtain ⟨hc, hf⟩ := bcell hb)
    go_ret
    exact ⟨rfl, (by repeat' (first | (with_reducible exact Below.refl _ _) | (with_reducible assumption) | (with_reducible refine Below.alloc ?_ ?_ _) | (with_reducible refine Below.drew ?_) | (with_reducible refine below_drewN ?_ _) | (with_reducible refine Below.setCell ?_ ?_ _) | (with_reducible refine below_up ?_ (by assumption)) | go_size))⟩

set_option maxHeartbeats 1000000 in
theorem table_go (zs : List Int) (A : Option Addr) (c : Nat) (up : Int) (hup : -1 ≤ up ∧ up ≤ 1) (w : World) (hA : IntsA w A zs) (hn : zs.length ≤ maxLen)
    (h9 : zs.length = 9) (hall : allB (-1000) 1000 zs = true) :
    Calls Tryd.prog 116 #[.slice A zs.length c, .int .i64 9, .int .i64 up] w fun e w' => e = .returned (.bool (goesTo zs up zs.length)) ∧ Below w.heap.size w w' := by
  have HR := Lib.hid (allB_true.1 hall)
  have Hall := Lib.hid hall
  have HA := Lib.hid hA
  have Hn := Lib.hid hn
  have H9 := Lib.hid h9
  have h9' : ((zs.length : Int) != 9) = false := by simp; omega
  clear hall hA hn h9
  go_enter Tryd.func116, Tryd.ntmps116
  go_wp2; go_step3
  go_wp2_with (go_at_call 92; refine (in_any (-1000) 1000 zs A c _ HA.out Hn.out).mono ?_; rw [Hall.out]; rintro e w1 ⟨rfl, hb⟩)
  go_step3
  go_wp2
  clear h9'
  go_loopw [19] (fun i wr => ∃ k : Nat, k ≤ zs.length ∧ i = .int .i64 k ∧ Hid (goesTo zs up k = true) ∧ Below w.heap.size w wr) (fun i _ => zs.length - (intOf i).toNat)
  case atStart => exact ⟨0, Nat.zero_le _, rfl, rfl, hb⟩
  case round =>
    obtain ⟨k, hk, rfl, hg, hbr⟩ := hrel
    clear hb
    have hl9 := H9.out
    have hk9 : k ≤ 9 := by omega
    by_cases hlt : k < zs.length
    · obtain ⟨b, off, rfl, hbl, hc⟩ := HA.out (by omega)
      by_cases h0 : k = 0
      · subst h0
        have hfin := Lib.hid (goesTo_succ hg.out (stepB_zero zs up))
        clear hl9
        go_wp2
        go_quiet (fail)
        go_wp2
        go_roundw
        case rel => exact ⟨1, by omega, rfl, hfin.out, (by repeat' (first | (with_reducible exact Below.refl _ _) | (with_reducible assumption) | (with_reducible refine Below.alloc ?_ ?_ _) | (with_reducible refine Below.drew ?_) | (with_reducible refine below_drewN ?_ _) | (with_reducible refine Below.setCell ?_ ?_ _) | (with_reducible refine below_up ?_ (by assumption)) | go_size))⟩
        case measure => simp [intOf]; omega
      · have h0' : ((k : Int) == 0) = false := by simp; omega
        have hk1 : 1 ≤ k := by omega
        have hck : wr.cell? ⟨b, off + k, none⟩ = some (.int .i64 (nth zs k)) := (hbr.cell (p := ⟨b, off + k, none⟩) hbl).trans (hc k hlt)
        have hcj : wr.cell? ⟨b, off + (k - 1), none⟩ = some (.int .i64 (nth zs (k - 1))) := (hbr.cell (p := ⟨b, off + (k - 1), none⟩) hbl).trans (hc (k - 1) (by omega))
        obtain ⟨hr1, hr2⟩ := HR.out k hlt
        obtain ⟨hr3, hr4⟩ := HR.out (k - 1) (by omega)
        have hs := stepB_pos (zs := zs) (up := up) hk1
        generalize nth zs k = x at hck hr1 hr2 hs
        generalize nth zs (k - 1) = y at hcj hr3 hr4 hs
        have hub : -1 * 2000 ≤ (x - y) * up ∧ (x - y) * up ≤ 2000 := by
          have : up = -1 ∨ up = 0 ∨ up = 1 := by omega
          rcases this with rfl | rfl | rfl <;> omega
        have hm1 : IntKind.i64.wrap (x - y) = x - y := IntWalk.i64_in _ (by omega)
        have hm : IntKind.i64.wrap ((x - y) * up) = (x - y) * up := IntWalk.i64_in _ (by omega)
        have hkk : IntKind.i64.wrap ((k : Int) - 1) = (k : Int) - 1 := IntWalk.i64_in _ (by omega)
        have hkt : ((k : Int) - 1).toNat = k - 1 := by omega
        have hlt' : k - 1 < zs.length := by omega
        clear hc hub hr1 hr2 hr3 hr4
        cases hst : stepB zs up k
        · have hfin := Lib.hid (goesTo_not hlt hst)
          rw [hst] at hs
          have hs' : decide (0 ≤ (x - y) * up) = false := hs.symm
          clear hs hst hl9 hg
          go_wp2
          go_quiet (fail)
          clear hm1 hm hkk hkt hs'
          go_wp2
          rw [Exit.noGoto_ret]
          go_ret
          exact ⟨ret_bool hfin.out.symm, (by repeat' (first | (with_reducible exact Below.refl _ _) | (with_reducible assumption) | (with_reducible refine Below.alloc ?_ ?_ _) | (with_reducible refine Below.drew ?_) | (with_reducible refine below_drewN ?_ _) | (with_reducible refine Below.setCell ?_ ?_ _) | (with_reducible refine below_up ?_ (by assumption)) | go_size))⟩
        · have hfin := Lib.hid (goesTo_succ hg.out hst)
          rw [hst] at hs
          have hs' : 0 ≤ (x - y) * up := by simpa using hs.symm
          clear hs hst hl9 hg
          go_wp2
          go_quiet (fail)
          clear hm1 hm hkk hkt hs' hck hcj
          go_wp2
          go_roundw
          case rel => exact ⟨k + 1, by omega, by go_num, hfin.out, (by repeat' (first | (with_reducible exact Below.refl _ _) | (with_reducible assumption) | (with_reducible refine Below.alloc ?_ ?_ _) | (with_reducible refine Below.drew ?_) | (with_reducible refine below_drewN ?_ _) | (with_reducible refine Below.setCell ?_ ?_ _) | (with_reducible refine below_up ?_ (by assumption)) | go_size))⟩
          case measure => simp [intOf]; omega
    · have hkl : k = zs.length := by omega
      subst hkl
      have hfin := Lib.hid hg.out
      clear hg hl9
      go_wp2
      rw [Exit.noGoto_ret]
      go_ret
      exact ⟨ret_bool hfin.out.symm, (by repeat' (first | (with_reducible exact Below.refl _ _) | (with_reducible assumption) | (with_reducible refine Below.alloc ?_ ?_ _) | (with_reducible refine Below.drew ?_) | (with_reducible refine below_drewN ?_ _) | (with_reducible refine Below.setCell ?_ ?_ _) | (with_reducible refine below_up ?_ (by assumption)) | go_size))⟩

set_option maxHeartbeats 400000 in
theorem table_any (zs : List Int) (A : Option Addr) (c : Nat) (up : Int) (hup : -1 ≤ up ∧ up ≤ 1) (w : World) (hA : IntsA w A zs) (hn : zs.length ≤ maxLen) :
    Calls Tryd.prog 116 #[.slice A zs.length c, .int .i64 9, .int .i64 up] w fun e w' => e = .returned (.bool (tableB zs up)) ∧ Below w.heap.size w w' := by
  by_cases h9 : zs.length = 9
  · cases hall : allB (-1000) 1000 zs
    · have e : tableB zs up = false := by simp [tableB, hall]
      rw [e]; clear e
      have Hall := Lib.hid hall
      have HA := Lib.hid hA
      have Hn := Lib.hid hn
      have h9' : ((zs.length : Int) != 9) = false := by simp; omega
      clear hall hA hn h9
      go_enter Tryd.func116, Tryd.ntmps116
      go_wp2; go_step3
      go_wp2_with (go_at_call 92; refine (in_any (-1000) 1000 zs A c _ HA.out Hn.out).mono ?_; rw [Hall.out]; rintro e w1 ⟨rfl, hb⟩)
      rw [Exit.noGoto_ret]
      go_ret
      exact ⟨rfl, (by repeat' (first | (with_reducible exact Below.refl _ _) | (with_reducible assumption) | (with_reducible refine Below.alloc ?_ ?_ _) | (with_reducible refine Below.drew ?_) | (with_reducible refine below_drewN ?_ _) | (with_reducible refine Below.setCell ?_ ?_ _) | (with_reducible refine below_up ?_ (by assumption)) | go_size))⟩
    · have e : tableB zs up = goesTo zs up zs.length := by simp [tableB, hall, h9]
      rw [e]
      exact table_go zs A c up hup w hA hn h9 hall
  · have e : tableB zs up = false := by simp [tableB, h9]
    rw [e]; clear e
    have h9' : ((zs.length : Int) != 9) = true := by simp; omega
    clear hA hn h9
    go_enter Tryd.func116, Tryd.ntmps116
    go_wp2; go_step3
    go_wp2
    rw [Exit.noGoto_ret]
    go_ret
    exact ⟨rfl, (by repeat' (first | (with_reducible exact Below.refl _ _) | (with_reducible assumption) | (with_reducible refine Below.alloc ?_ ?_ _) | (with_reducible refine Below.drew ?_) | (with_reducible refine below_drewN ?_ _) | (with_reducible refine Below.setCell ?_ ?_ _) | (with_reducible refine below_up ?_ (by assumption)) | go_size))⟩
end Go.Proofs.YtppejcmjjjfamaaDoor
