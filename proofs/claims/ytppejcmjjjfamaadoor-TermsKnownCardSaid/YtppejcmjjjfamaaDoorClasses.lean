/- terms.offer.classes: its iterator. -/
import Derived.Test.YtppejcmjjjfamaaDoorChecked
import Derived.Test.YtppejcmjjjfamaaDoorClassesPlain
import Derived.Test.YtppejcmjjjfamaaDoorSeqM
import Derived.RangeFuncBound
import Derived.RangeFuncCalls
import Derived.RangeFuncBox
import Derived.Shelf.Abstract
import Derived.Shelf.RegionOpen
import Derived.OwnWalkIn
import Derived.TacticsInMore
import Derived.LoopNIn
import Derived.LoopIn
import Derived.Handy
namespace Go.Proofs.YtppejcmjjjfamaaDoor
open Go.RowKit Go.Shelf
attribute [local go_sem] Oper.semAt_some

theorem lt_or_ge' (a b : Int) : a < b ∨ b ≤ a := by omega
def encC (x : Cls) : Array Value := #[.agg #[.int .i64 x.1.1, .int .i64 x.1.2]]
/-- what has come of the classes, said of the elements that were handed on -/
def CameC (J : List Cls → World → Prop) (L : List (Int × Int)) (W : World) : Prop := ∃ pre : List Cls, pre.map (·.1) = L ∧ J pre W

set_option maxRecDepth 100000 in
set_option maxHeartbeats 1000000 in
theorem classes1_in (t : TT) (a b c d : Int) (hg : 1 ≤ a ∧ b ≤ 9) (hs : 1 ≤ c ∧ d ≤ 9) (hc : t.short ≤ 9223372036854775806) (l kg ko ks n₀ : Nat) (h1 : kg < n₀) (h2 : ko < n₀) (h3 : ks < n₀) (J Jx : List Cls → World → Prop)
    (hY : ∀ pre x W1, J pre W1 → YieldAt Fence.wide 7 Tryd.prog l (encC x) W1 fun e W' => (e = .returned (.bool true) ∧ J (pre ++ [x]) W' ∧ Below n₀ W1 W') ∨ (e = .returned (.bool false) ∧ Jx (pre ++ [x]) W'))
    (W : World) (g0 : W.cell? ⟨kg, 0, none⟩ = some (.int .i64 a)) (g1 : W.cell? ⟨kg, 1, none⟩ = some (.int .i64 b)) (o3 : W.cell? ⟨ko, 3, none⟩ = some (.int .i64 t.worst)) (o4 : W.cell? ⟨ko, 4, none⟩ = some (.int .i64 t.short))
    (s0 : W.cell? ⟨ks, 0, none⟩ = some (.int .i64 c)) (s1 : W.cell? ⟨ks, 1, none⟩ = some (.int .i64 d)) (h0 : J [] W) :
    CallsIn Fence.wide 8 Tryd.prog 122 #[.func (.yield l) #[] #[], .pointer (some ⟨kg, 0, none⟩), .pointer (some ⟨ko, 0, none⟩), .pointer (some ⟨ks, 0, none⟩)] W fun e W' => (∃ v, e = .returned v) ∧
      ((∃ xs : List Cls, xs.map (·.1) = classesL t a b c d ∧ J xs W') ∨ (∃ pre, Jx pre W')) := by
  refine callsIn_of_wp Tryd.func122 rfl trivial ?_ rfl
  simp only [Tryd.ntmps122, List.size_toArray, List.length_cons, List.length_nil, Nat.reduceAdd, Nat.reduceSub, Array.replicate_succ, Array.replicate_zero, List.push_toArray, List.append_toArray, List.nil_append, List.cons_append]
  gi_wp2
  gi_loopw [5] (fun i wr => ∃ g : Int, i = .int .i64 g ∧ a ≤ g ∧ (g ≤ min b t.worst + 1 ∨ g = a) ∧ CameC J (rowsL a g (max c t.short) (d + 1)) wr ∧ Below n₀ W wr)
    (fun i _ => (10 - intOf i).toNat)
  case atStart => exact ⟨a, rfl, by omega, .inr rfl, ⟨[], by rw [rowsL_nil (by omega)]; rfl, h0⟩, Below.refl _ _⟩
  case round =>
    obtain ⟨g, rfl, hag, hgm, hJ, hbr⟩ := hrel
    have q0 : wr.cell? ⟨kg, 1, none⟩ = some (.int .i64 b) := (hbr.cell (p := ⟨kg, 1, none⟩) h1).trans g1
    have q1 : wr.cell? ⟨ko, 3, none⟩ = some (.int .i64 t.worst) := (hbr.cell (p := ⟨ko, 3, none⟩) h2).trans o3
    have q2 : wr.cell? ⟨ko, 4, none⟩ = some (.int .i64 t.short) := (hbr.cell (p := ⟨ko, 4, none⟩) h2).trans o4
    have q3 : wr.cell? ⟨ks, 0, none⟩ = some (.int .i64 c) := (hbr.cell (p := ⟨ks, 0, none⟩) h3).trans s0
    by_cases hlt : g ≤ min b t.worst
    · have hlo : t.short ≤ max c t.short ∧ c ≤ max c t.short := by omega
      rcases lt_or_ge' t.worst b with hw | hw <;> rcases lt_or_ge' c t.short with hsh | hsh
      all_goals
        have hlt' : g ≤ b ∧ g ≤ t.worst := by omega
        obtain ⟨hl1, hl2⟩ := hlt'
        clear hlt
        gi_wp2
        gi_loopw [6] (fun i wx => ∃ s : Int, i = .int .i64 s ∧ max c t.short ≤ s ∧ (s ≤ d + 1 ∨ s = max c t.short) ∧ CameC J (rowsL a g (max c t.short) (d + 1) ++ rowL g (max c t.short) s) wx ∧ Below n₀ W wx) (fun i _ => (10 - intOf i).toNat)
        case atStart => exact ⟨max c t.short, by first | rw [show max c t.short = t.short by omega] | rw [show max c t.short = c by omega], by omega, .inr rfl, by rw [rowL_nil (by omega), List.append_nil]; exact hJ, hbr⟩
        case round =>
          obtain ⟨s, rfl, hls, hsm, ⟨pre, hpre, hJ2⟩, hbx⟩ := hrel
          have q5 : wr.cell? ⟨ks, 1, none⟩ = some (.int .i64 d) := (hbx.cell (p := ⟨ks, 1, none⟩) h3).trans s1
          by_cases hlt2 : s ≤ d
          · obtain ⟨fn, tmps, assign, body, hy, hR⟩ := hY pre ⟨(g, s), ⟨by omega, by omega⟩, ⟨by omega, by omega⟩⟩ wr hJ2
            simp only [encC] at hy
            gi_wp2
            refine hR.mono ?_
            rintro e W3 (⟨rfl, hJ3, hk3⟩ | ⟨rfl, hJx3⟩)
            · gi_wp2
              go_roundw
              case rel => exact ⟨s + 1, by go_num, by omega, by omega, ⟨_, by rw [List.map_append, hpre, rowL_succ (by omega), ← List.append_assoc]; rfl, hJ3⟩, hbx.trans hk3⟩
              case measure => simp [intOf]; omega
            · gi_wp2
              refine bodyPost_ret (results_none rfl _ _ _) rfl ?_
              exact ⟨⟨_, rfl⟩, .inr ⟨_, hJx3⟩⟩
          · gi_wp2
            go_roundw
            case rel => exact ⟨g + 1, by go_num, by omega, by omega, ⟨pre, by rw [hpre, rowsL_succ (by omega), rowL_end (d := d) (by omega) (by omega)], hJ2⟩, hbx⟩
            case measure => simp [intOf]; omega
    · obtain ⟨pre, hpre, hJ2⟩ := hJ
      have hfin := Lib.hid (show pre.map (·.1) = classesL t a b c d by rw [hpre, classesL]; exact rowsL_end (by omega) hgm)
      clear hpre
      rcases lt_or_ge' t.worst b with hw | hw
      all_goals
        have hlt' : ¬ g ≤ b ∨ ¬ g ≤ t.worst := by omega
        first | have hl1 : ¬ g ≤ t.worst := by omega | have hl1 : ¬ g ≤ b := by omega
        clear hlt hlt'
        gi_wp2
        go_end0
        exact ⟨⟨_, rfl⟩, .inl ⟨pre, hfin.out, hJ2⟩⟩

/-- the iterator of the classes: its contract -/
theorem classes1_seq (t : TT) (a b c d : Int) (hg : 1 ≤ a ∧ b ≤ 9) (hs : 1 ≤ c ∧ d ≤ 9) (hc : t.short ≤ 9223372036854775806) (kg ko ks n₀ : Nat) (h1 : kg < n₀) (h2 : ko < n₀) (h3 : ks < n₀) (w : World) (hn : n₀ ≤ w.heap.size)
    (g0 : w.cell? ⟨kg, 0, none⟩ = some (.int .i64 a)) (g1 : w.cell? ⟨kg, 1, none⟩ = some (.int .i64 b)) (o3 : w.cell? ⟨ko, 3, none⟩ = some (.int .i64 t.worst)) (o4 : w.cell? ⟨ko, 4, none⟩ = some (.int .i64 t.short))
    (s0 : w.cell? ⟨ks, 0, none⟩ = some (.int .i64 c)) (s1 : w.cell? ⟨ks, 1, none⟩ = some (.int .i64 d)) :
    SeqM Tryd.prog 122 #[.pointer (some ⟨kg, 0, none⟩), .pointer (some ⟨ko, 0, none⟩), .pointer (some ⟨ks, 0, none⟩)] encC n₀ (fun xs => xs.map (·.1) = classesL t a b c d) w := by
  intro l J Jx W hW _ _ hY h0
  exact classes1_in t a b c d hg hs hc l kg ko ks n₀ h1 h2 h3 J Jx hY W
    ((hW.cell (p := ⟨kg, 0, none⟩) (by show kg < _; omega)).trans g0) ((hW.cell (p := ⟨kg, 1, none⟩) (by show kg < _; omega)).trans g1) ((hW.cell (p := ⟨ko, 3, none⟩) (by show ko < _; omega)).trans o3) ((hW.cell (p := ⟨ko, 4, none⟩) (by show ko < _; omega)).trans o4)
    ((hW.cell (p := ⟨ks, 0, none⟩) (by show ks < _; omega)).trans s0) ((hW.cell (p := ⟨ks, 1, none⟩) (by show ks < _; omega)).trans s1) h0
end Go.Proofs.YtppejcmjjjfamaaDoor
