/- middlingref04: nine, Terms. -/
import Derived.Test.YtppejcmjjjfamaaDoorRef
namespace Go.Proofs.YtppejcmjjjfamaaDoor
open Go.RowKit

/-- nine numbers, from -1000 to 1000 -/
def nineB (zs : List Int) : Bool := decide (zs.length = 9) && allB (-1000) 1000 zs
def allTo (zs : List Int) (k : Nat) : Prop := ∀ j, j < k → inB (-1000) 1000 (nth zs j) = true
theorem nineB_len {zs : List Int} (h : zs.length ≠ 9) : nineB zs = false := by simp [nineB, h]
theorem nineB_at {zs : List Int} {k : Nat} (hk : k < zs.length) (h : inB (-1000) 1000 (nth zs k) = false) : nineB zs = false := by
  cases hn : nineB zs
  · rfl
  · simp only [nineB, Bool.and_eq_true] at hn
    have := allB_true.1 hn.2 k hk
    rw [← inB_true, h] at this
    cases this
theorem nineB_all {zs : List Int} (h9 : zs.length = 9) (h : allTo zs zs.length) : nineB zs = true := by
  simp only [nineB, Bool.and_eq_true, decide_eq_true_eq]
  exact ⟨h9, allB_true.2 fun i hi => inB_true.1 (h i hi)⟩

set_option maxHeartbeats 400000 in
theorem nineR_any (zs : List Int) (A : Option Addr) (c : Nat) (w : World) (hA : IntsA w A zs) (hn : zs.length ≤ maxLen) :
    Calls Tryd.prog 114 #[.slice A zs.length c] w fun e w' => e = .returned (.bool (nineB zs)) ∧ w = w' := by
  unfold maxLen at hn
  by_cases h9 : zs.length = 9
  · have h9' : ((zs.length : Int) != 9) = false := by simp; omega
    have H9 := Lib.hid h9
    have HA := Lib.hid hA
    clear h9 hA
    go_enter Tryd.func114, Tryd.ntmps114
    go_wp2
    clear h9'
    go_loop [10] (fun i => ∃ k : Nat, k ≤ zs.length ∧ i = .int .i64 k ∧ Hid (allTo zs k)) (fun i => zs.length - (intOf i).toNat)
    case atStart => exact ⟨0, Nat.zero_le _, rfl, fun j hj => by omega⟩
    case round =>
      obtain ⟨k, hk, rfl, hs⟩ := hrel
      by_cases hlt : k < zs.length
      · obtain ⟨b, off, rfl, hb, hc⟩ := HA.out (by omega)
        have hck := hc k hlt
        clear hc
        cases hp : inB (-1000) 1000 (nth zs k)
        · have Hf := Lib.hid (nineB_at hlt hp)
          have Hp := Lib.hid hp
          clear hp hs
          go_wp2_with (go_at_call 76; refine (withinR_any _ _ _ _).mono ?_; rw [Hp.out]; rintro e w' ⟨rfl, rfl⟩)
          go_ret
          exact ⟨ret_bool Hf.out.symm, rfl⟩
        · have hs' := Lib.hid (show allTo zs (k + 1) from fun j hj => by
            by_cases e : j = k
            · subst e; exact hp
            · exact hs.out j (by omega))
          have Hp := Lib.hid hp
          clear hp hs
          go_wp2_with (go_at_call 76; refine (withinR_any _ _ _ _).mono ?_; rw [Hp.out]; rintro e w' ⟨rfl, rfl⟩)
          go_round
          case rel => exact ⟨k + 1, by omega, by go_num, hs'.out⟩
          case measure => simp [intOf]; omega
      · have : k = zs.length := by omega
        subst this
        have Hf := Lib.hid (nineB_all H9.out hs.out)
        go_wp2
        go_ret
        exact ⟨ret_bool Hf.out.symm, rfl⟩
  · have h9' : ((zs.length : Int) != 9) = true := by simp; omega
    have Hf := Lib.hid (nineB_len h9)
    clear h9 hA
    go_enter Tryd.func114, Tryd.ntmps114
    go_wp2
    go_ret
    exact ⟨ret_bool Hf.out.symm, rfl⟩
end Go.Proofs.YtppejcmjjjfamaaDoor
