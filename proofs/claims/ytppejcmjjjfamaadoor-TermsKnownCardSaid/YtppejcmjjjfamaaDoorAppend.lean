/- append onto an empty slice of the call's own, from a slice of numbers: no program is named here. -/
import Derived.Test.YtppejcmjjjfamaaDoorWords
import Derived.Maps.AppendAt
import Derived.RegionTactic
namespace Go.Proofs.YtppejcmjjjfamaaDoor
open Go.RowKit

theorem add_off (b off j : Nat) : (⟨b, off, none⟩ : Addr).add j = ⟨b, off + j, none⟩ := by unfold Addr.add; split <;> simp_all
/-- A slice of numbers that lies in a block of its own, at or beyond a base. -/
def OwnInts (w : World) (base : Nat) (e : TypeId) (A : Option Addr) (zs : List Int) : Prop :=
  0 < zs.length → ∃ g cur, A = some ⟨g, 0, none⟩ ∧ base ≤ g ∧ w.heap[g]? = some (.cells cur e (0, 0)) ∧ ∀ i, i < zs.length → cur[i]? = some (.int .i64 (nth zs i))
theorem OwnInts.ints {w : World} {base : Nat} {e : TypeId} {A : Option Addr} {zs : List Int} (h : OwnInts w base e A zs) : IntsA w A zs := fun h0 => by
  obtain ⟨g, cur, rfl, _, hg, hc⟩ := h h0
  have hlt : g < w.heap.size := by
    rcases Nat.lt_or_ge g w.heap.size with hlt | hge
    · exact hlt
    · rw [Array.getElem?_eq_none hge] at hg; cases hg
  exact ⟨g, 0, rfl, hlt, fun i hi => by rw [Nat.zero_add, cell_of_row w g i cur e (0, 0) hg]; exact hc i hi⟩
theorem OwnInts.below {w w' : World} {base : Nat} {e : TypeId} {A : Option Addr} {zs : List Int} (h : OwnInts w base e A zs) (hb : Below w.heap.size w w') : OwnInts w' base e A zs := fun h0 => by
  obtain ⟨g, cur, rfl, hbg, hg, hc⟩ := h h0
  have hlt : g < w.heap.size := by
    rcases Nat.lt_or_ge g w.heap.size with hlt | hge
    · exact hlt
    · rw [Array.getElem?_eq_none hge] at hg; cases hg
  exact ⟨g, cur, rfl, hbg, (hb.block g hlt).trans hg, hc⟩

theorem OwnInts.setCell {w : World} {base : Nat} {e : TypeId} {A : Option Addr} {zs : List Int} (h : OwnInts w base e A zs) {p : Addr} (hp : p.block < base) (v : Value) : OwnInts (w.setCell p v) base e A zs := fun h0 => by
  obtain ⟨g, cur, rfl, hbg, hg, hc⟩ := h h0
  exact ⟨g, cur, rfl, hbg, (Below.heap_setCell w p v g (by omega)).trans hg, hc⟩
theorem OwnInts.weaken {w : World} {base base' : Nat} {e : TypeId} {A : Option Addr} {zs : List Int} (h : OwnInts w base e A zs) (hb : base' ≤ base) : OwnInts w base' e A zs := fun h0 => by
  obtain ⟨g, cur, rfl, hbg, hg, hc⟩ := h h0
  exact ⟨g, cur, rfl, Nat.le_trans hb hbg, hg, hc⟩

section
variable {P : Program} (w : World)
theorem run_append_ints (t ty e : TypeId) (i : TypeInfo) (z : Value) (ht : P.underlying t = some (.slice e)) (hi : P.info? e = some i) (hz : i.zero = some z) (hsize : i.size = 1) (hby : i.bytes = 8)
    (base B : Nat) (hbase : base ≤ w.heap.size) (zs : List Int) (A : Option Addr) (c : Nat) (hA : IntsA w A zs) (hn : zs.length ≤ 1000000) :
    ∃ A' cap w', (Builtin.append_ #[t, t] ty #[.slice (some ⟨B, 0, none⟩) 0 0, .slice A zs.length c]).run P w = .ok (.slice A' zs.length cap) w' ∧ OwnInts w' base e A' zs ∧ Below w.heap.size w w' := by
  rcases Nat.eq_zero_or_pos zs.length with h0 | h0
  · refine ⟨some ⟨B, 0, none⟩, 0, w, ?_, fun h => by omega, Below.refl _ _⟩
    rw [h0]
    cases A <;> simp [Builtin.append_, run_underlying ht, sizeOf, typeInfo, hi, Builtin.lenOf, Builtin.firstCells, loadCells, loadCellsFrom, storeCells]
  · obtain ⟨b, off, rfl, hb, hc⟩ := hA h0
    have hl : (zs.map (Value.int .i64)).length = zs.length * i.size := by rw [hsize]; simp
    have hcells : ∀ j u, (zs.map (Value.int .i64))[j]? = some u → w.cell? ((⟨b, off, none⟩ : Addr).add j) = some u := by
      intro j u hu
      rw [List.getElem?_map] at hu
      obtain ⟨x, hx, rfl⟩ := Option.map_eq_some_iff.1 hu
      have hj : j < zs.length := (List.getElem?_eq_some_iff.1 hx).1
      rw [add_off, hc j hj, nth_lt hj]
      simp [List.getElem?_eq_getElem hj] at hx
      rw [hx]
    have hr := run_append_grow (P := P) w t ty e i z ht hi hz ⟨B, 0, none⟩ 0 0 [] (by simp) (by simp) ⟨b, off, none⟩ zs.length c (zs.map (Value.int .i64)) hl hcells (by omega) (by omega) (by
      rw [nextslicecap_zero (by omega), hby]; omega)
    simp only [Nat.zero_add] at hr
    refine ⟨_, _, _, hr, fun _ => ⟨w.heap.size, _, rfl, hbase, heap_alloc_new w.drew _, fun k hk => ?_⟩, ((Below.refl w.heap.size w).drew).alloc (by simp) _⟩
    rw [Array.getElem?_append_left (by simp; omega)]
    simp [List.getElem?_eq_getElem hk, nth_lt hk]

/-- AT A STEP OF A REGION THAT DRAWS ITS ORDER. -/
theorem step_append_ints {ops : Array Oper} {o : Oper} {a : Act} {K : Act → World → Prop} {Q : Exit → Act → World → Prop} {E : Prop} (hgd : o.guard = none) (s x : Operand) (t : TypeId)
    (ho : o.op = .call { callee := .builtin .append, args := #[s, x], argTypes := #[t, t] })
    (e : TypeId) (i : TypeInfo) (z : Value) (ht : P.underlying t = some (.slice e)) (hi : P.info? e = some i) (hz : i.zero = some z) (hsize : i.size = 1) (hby : i.bytes = 8)
    (base B : Nat) (hbase : base ≤ w.heap.size) (zs : List Int) (A : Option Addr) (c : Nat) (hs : a.eval s = .slice (some ⟨B, 0, none⟩) 0 0) (hx : a.eval x = .slice A zs.length c) (hA : IntsA w A zs) (hn : zs.length ≤ 1000000)
    (h : ∀ A' cap w', OwnInts w' base e A' zs → Below w.heap.size w w' → K (a.put o.dst (.slice A' zs.length cap)) w') :
    if Region.wanted o (yielded ops a.tmps) = true then Oper.wp P o a w K Q else E := by
  have hw : Region.wanted o (yielded ops a.tmps) = true := by simp [Region.wanted, hgd]
  rw [if_pos hw]
  obtain ⟨A', cap, w', hr, h1, h2⟩ := run_append_ints (P := P) w t o.type e i z ht hi hz hsize hby base B hbase zs A c hA hn
  unfold Oper.wp execOp
  simp only [ho, resolve, invoke, builtin, Sem.run_bind, Sem.run_pure, Result.andThen_ok, List.map_toArray, List.map_cons, List.map_nil, hs, hx, hr]
  exact h A' cap w' h1 h2
end
end Go.Proofs.YtppejcmjjjfamaaDoor
