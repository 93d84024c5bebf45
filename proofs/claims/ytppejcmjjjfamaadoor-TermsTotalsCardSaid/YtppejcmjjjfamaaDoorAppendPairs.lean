/- append onto an empty slice of the call's own, from a slice of pairs of numbers. -/
import Derived.Test.YtppejcmjjjfamaaDoorAppend
import Derived.Test.YtppejcmjjjfamaaDoorTotalPlain
namespace Go.Proofs.YtppejcmjjjfamaaDoor
open Go.RowKit

def flatP (l : List (Int × Int)) : List Value := l.flatMap fun x => [.int .i64 x.1, .int .i64 x.2]
theorem flatP_len (l : List (Int × Int)) : (flatP l).length = l.length * 2 := by
  induction l with
  | nil => rfl
  | cons a l ih => simp only [flatP, List.flatMap_cons, List.length_append, List.length_cons, List.length_nil] at ih ⊢; omega
theorem flatP_get (l : List (Int × Int)) : ∀ i, i < l.length → (flatP l)[i * 2]? = some (.int .i64 (nth l i).1) ∧ (flatP l)[i * 2 + 1]? = some (.int .i64 (nth l i).2) := by
  induction l with
  | nil => intro i h; simp at h
  | cons a l ih =>
    intro i h
    cases i with
    | zero => exact ⟨rfl, rfl⟩
    | succ i =>
      have := ih i (by simpa using h)
      have e1 : (i + 1) * 2 = i * 2 + 1 + 1 := by omega
      rw [e1]
      exact this
section
variable {P : Program} (w : World)
theorem run_append_pairs (t ty e : TypeId) (i : TypeInfo) (z : Value) (ht : P.underlying t = some (.slice e)) (hi : P.info? e = some i) (hz : i.zero = some z) (hsize : i.size = 2) (hby : i.bytes = 16)
    (B : Nat) (l : List (Int × Int)) (A : Option Addr) (c : Nat) (hA : PairsA w A l) (hn : l.length ≤ 1000000) :
    ∃ A' cap w', (Builtin.append_ #[t, t] ty #[.slice (some ⟨B, 0, none⟩) 0 0, .slice A l.length c]).run P w = .ok (.slice A' l.length cap) w' ∧ PairsA w' A' l ∧ Below w.heap.size w w' := by
  rcases Nat.eq_zero_or_pos l.length with h0 | h0
  · refine ⟨some ⟨B, 0, none⟩, 0, w, ?_, fun h => by omega, Below.refl _ _⟩
    rw [h0]
    cases A <;> simp [Builtin.append_, run_underlying ht, sizeOf, typeInfo, hi, Builtin.lenOf, Builtin.firstCells, loadCells, loadCellsFrom, storeCells]
  · obtain ⟨b, off, rfl, hb, hc⟩ := hA h0
    have hl : (flatP l).length = l.length * i.size := by rw [hsize, flatP_len]
    have hcells : ∀ j u, (flatP l)[j]? = some u → w.cell? ((⟨b, off, none⟩ : Addr).add j) = some u := by
      intro j u hu
      have hj : j < l.length * 2 := by have := (List.getElem?_eq_some_iff.1 hu).1; rwa [flatP_len] at this
      have g := flatP_get l (j / 2) (by omega)
      have k := hc (j / 2) (by omega)
      rw [add_off]
      rcases Nat.mod_two_eq_zero_or_one j with h2 | h2
      · have e : j = j / 2 * 2 := by omega
        rw [e] at hu ⊢
        rw [k.1, ← hu]; exact g.1.symm
      · have e : j = j / 2 * 2 + 1 := by omega
        rw [e] at hu ⊢
        rw [← Nat.add_assoc, k.2, ← hu]; exact g.2.symm
    have hr := run_append_grow (P := P) w t ty e i z ht hi hz ⟨B, 0, none⟩ 0 0 [] (by simp) (by simp) ⟨b, off, none⟩ l.length c (flatP l) hl hcells (by omega) (by omega) (by
      rw [nextslicecap_zero (by omega), hby]; omega)
    simp only [Nat.zero_add] at hr
    refine ⟨_, _, _, hr, fun _ => ⟨w.heap.size, 0, rfl, by simp, fun k hk => ?_⟩, ((Below.refl w.heap.size w).drew).alloc (by simp) _⟩
    have g := flatP_get l k hk
    have hf := flatP_len l
    constructor
    · refine (cell_of_row _ w.heap.size _ _ _ _ (heap_alloc_new w.drew _)).trans ?_
      rw [Array.getElem?_append_left (by simp; omega)]
      simpa using g.1
    · refine (cell_of_row _ w.heap.size _ _ _ _ (heap_alloc_new w.drew _)).trans ?_
      rw [Array.getElem?_append_left (by simp; omega)]
      simpa using g.2

theorem wpList_append_pairs {ops : Array Oper} {rest : List Oper} {o : Oper} {a : Act} {Q : Exit → Act → World → Prop} (hgd : o.guard = none) (s x : Operand) (t : TypeId)
    (ho : o.op = .call { callee := .builtin .append, args := #[s, x], argTypes := #[t, t] })
    (e : TypeId) (i : TypeInfo) (z : Value) (ht : P.underlying t = some (.slice e)) (hi : P.info? e = some i) (hz : i.zero = some z) (hsize : i.size = 2) (hby : i.bytes = 16)
    (B : Nat) (l : List (Int × Int)) (A : Option Addr) (c : Nat) (hs : a.eval s = .slice (some ⟨B, 0, none⟩) 0 0) (hx : a.eval x = .slice A l.length c) (hA : PairsA w A l) (hn : l.length ≤ 1000000)
    (h : ∀ A' cap w', PairsA w' A' l → Below w.heap.size w w' → wpList P ops Q rest (a.put o.dst (.slice A' l.length cap)) w') : wpList P ops Q (o :: rest) a w := by
  refine wpList_plain hgd fun K hK' => ?_
  obtain ⟨A', cap, w', hr, h1, h2⟩ := run_append_pairs (P := P) w t o.type e i z ht hi hz hsize hby B l A c hA hn
  unfold Oper.wp execOp
  simp only [ho, resolve, invoke, builtin, Sem.run_bind, Sem.run_pure, Result.andThen_ok, List.map_toArray, List.map_cons, List.map_nil, hs, hx, hr]
  exact hK' _ _ (h A' cap w' h1 h2)
end
end Go.Proofs.YtppejcmjjjfamaaDoor
