/- terms.in, and what it calls: whether all of some numbers lie within bounds. -/
import Derived.Test.YtppejcmjjjfamaaDoorChecked
import Derived.Test.YtppejcmjjjfamaaDoorWords
import Derived.Handy
namespace Go.Proofs.YtppejcmjjjfamaaDoor
open Go.RowKit

set_option maxHeartbeats 400000 in
theorem in1_any (n lo hi : Int) (bl bh : Nat) (w : World) (hl : w.cell? ⟨bl, 0, none⟩ = some (.int .i64 lo)) (hh : w.cell? ⟨bh, 0, none⟩ = some (.int .i64 hi)) :
    Calls Tryd.prog 120 #[.int .i64 n, .pointer (some ⟨bl, 0, none⟩), .pointer (some ⟨bh, 0, none⟩)] w fun e w' => e = .returned (.bool (outB lo hi n)) ∧ w = w' := by
  by_cases h : n < lo
  · have e : outB lo hi n = true := by simp [outB, h]
    rw [e]
    go_enter Tryd.func120, Tryd.ntmps120
    go_wp2
    go_ret
    exact ⟨rfl, rfl⟩
  · have e : outB lo hi n = decide (hi < n) := by simp [outB, h]
    rw [e]; clear e
    go_enter Tryd.func120, Tryd.ntmps120
    go_wp2
    go_ret
    exact ⟨rfl, rfl⟩

set_option maxHeartbeats 400000 in
theorem idxInt_any (zs : List Int) (A : Option Addr) (c : Nat) (lo hi : Int) (bl bh : Nat) (w : World) (hA : IntsA w A zs) (hn : zs.length ≤ maxLen)
    (hl : w.cell? ⟨bl, 0, none⟩ = some (.int .i64 lo)) (hh : w.cell? ⟨bh, 0, none⟩ = some (.int .i64 hi)) :
    Calls Tryd.prog 133 #[.slice A zs.length c, .func (.func 120) #[] #[.pointer (some ⟨bl, 0, none⟩), .pointer (some ⟨bh, 0, none⟩)]] w
      fun e w' => e = .returned (.int .i64 (findIx (outB lo hi) zs)) ∧ w = w' := by
  unfold maxLen at hn
  have hP := fun n => in1_any n lo hi bl bh w hl hh
  have HP := Lib.hid hP
  clear hP hl hh
  have HA := Lib.hid hA
  clear hA
  go_enter Tryd.func133, Tryd.ntmps133
  go_wp2
  go_loop [8] (fun i => ∃ k : Nat, k ≤ zs.length ∧ i = .int .i64 k ∧ Hid (noneBefore (outB lo hi) zs k)) (fun i => zs.length - (intOf i).toNat)
  case atStart => exact ⟨0, Nat.zero_le _, rfl, fun j hj => by omega⟩
  case round =>
    obtain ⟨k, hk, rfl, hnb⟩ := hrel
    by_cases hlt : k < zs.length
    · obtain ⟨b, off, rfl, hb, hc⟩ := HA.out (by omega)
      have hck := hc k hlt
      clear hc
      cases hp : outB lo hi (nth zs k)
      · have Hp := Lib.hid hp
        clear hp
        go_wp2_with (go_at_call 120; refine (HP.out _).mono ?_; rw [Hp.out]; rintro e w' ⟨rfl, rfl⟩)
        go_round
        case rel => exact ⟨k + 1, by omega, by go_num, hnb.out.succ Hp.out⟩
        case measure => simp [intOf]; omega
      · have Hp := Lib.hid hp
        clear hp
        go_wp2_with (go_at_call 120; refine (HP.out _).mono ?_; rw [Hp.out]; rintro e w' ⟨rfl, rfl⟩)
        go_ret
        exact ⟨ret_int (findIx_at hnb.out hlt Hp.out), rfl⟩
    · have : k = zs.length := by omega
      subst this
      go_wp2
      go_ret
      exact ⟨ret_int (findIx_none hnb.out), rfl⟩

set_option maxHeartbeats 400000 in
theorem cfInt_any (zs : List Int) (A : Option Addr) (c : Nat) (lo hi : Int) (bl bh : Nat) (w : World) (hA : IntsA w A zs) (hn : zs.length ≤ maxLen)
    (hl : w.cell? ⟨bl, 0, none⟩ = some (.int .i64 lo)) (hh : w.cell? ⟨bh, 0, none⟩ = some (.int .i64 hi)) :
    Calls Tryd.prog 119 #[.slice A zs.length c, .func (.func 120) #[] #[.pointer (some ⟨bl, 0, none⟩), .pointer (some ⟨bh, 0, none⟩)]] w
      fun e w' => e = .returned (.bool (!allB lo hi zs)) ∧ w = w' := by
  have hc := Lib.hid (idxInt_any zs A c lo hi bl bh w hA hn hl hh)
  clear hA hn hl hh
  go_enter Tryd.func119, Tryd.ntmps119
  go_wp2_with (go_at_call 133; refine (hc.out).mono ?_; rintro e w' ⟨rfl, rfl⟩)
  go_ret
  exact ⟨ret_bool (by rw [allB, Bool.not_not, ← findIx_any]), rfl⟩

set_option maxHeartbeats 400000 in
theorem in_any (lo hi : Int) (zs : List Int) (A : Option Addr) (c : Nat) (w : World) (hA : IntsA w A zs) (hn : zs.length ≤ maxLen) :
    Calls Tryd.prog 92 #[.int .i64 lo, .int .i64 hi, .slice A zs.length c] w fun e w' => e = .returned (.bool (allB lo hi zs)) ∧ Below w.heap.size w w' := by
  have hc := Lib.hid (cfInt_any zs A c lo hi w.heap.size (w.heap.size + 1) ((w.alloc (.cells #[.int .i64 lo] 3)).alloc (.cells #[.int .i64 hi] 3)) ((hA.alloc _).alloc _) hn (by simp [go_sem]) (by simp [go_sem]))
  clear hA hn
  go_enter Tryd.func92, Tryd.ntmps92
  go_wp2_with (go_at_call 119; refine (hc.out).mono ?_; rintro e w' ⟨rfl, rfl⟩)
  go_ret
  exact ⟨ret_bool (by simp), by go_grown⟩

theorem in_one (lo hi x : Int) (b off c : Nat) (w : World) (hb : b < w.heap.size) (hx : w.cell? ⟨b, off, none⟩ = some (.int .i64 x)) :
    Calls Tryd.prog 92 #[.int .i64 lo, .int .i64 hi, .slice (some ⟨b, off, none⟩) 1 c] w fun e w' => e = .returned (.bool (inB lo hi x)) ∧ Below w.heap.size w w' := by
  have := in_any lo hi [x] (some ⟨b, off, none⟩) c w (fun _ => ⟨b, off, rfl, hb, fun i hi => by
    have : i = 0 := by simpa using hi
    subst this
    simpa [nth] using hx⟩) (by simp [maxLen])
  rw [allB_one] at this
  exact this
theorem in_two (lo hi x y : Int) (b off c : Nat) (w : World) (hb : b < w.heap.size) (hx : w.cell? ⟨b, off, none⟩ = some (.int .i64 x)) (hy : w.cell? ⟨b, off + 1, none⟩ = some (.int .i64 y)) :
    Calls Tryd.prog 92 #[.int .i64 lo, .int .i64 hi, .slice (some ⟨b, off, none⟩) 2 c] w fun e w' => e = .returned (.bool (inB lo hi x && inB lo hi y)) ∧ Below w.heap.size w w' := by
  have := in_any lo hi [x, y] (some ⟨b, off, none⟩) c w (fun _ => ⟨b, off, rfl, hb, fun i hi => by
    have : i = 0 ∨ i = 1 := by simp at hi; omega
    rcases this with rfl | rfl
    · simpa [nth] using hx
    · simpa [nth] using hy⟩) (by simp [maxLen])
  rw [allB_two] at this
  exact this
end Go.Proofs.YtppejcmjjjfamaaDoor
