/- Small facts on worlds for loops over iterators. No program is named here. -/
import Derived.Test.YtppejcmjjjfamaaDoorSeqM
import Derived.Test.YtppejcmjjjfamaaDoorWords
namespace Go.Proofs.YtppejcmjjjfamaaDoor
open Go.RowKit

/-- a block of cells lies on through the turn of a block that holds none -/
theorem cells_kept {W W' : World} {row : Option Nat} {k : Nat} {cs : Array Value} {T : TypeId} {fr : Nat × Nat} (h : W.heap[k]? = some (.cells cs T fr)) (hg : W.grownBy W' row) (hr : ∀ r, row = some r → ∃ o : Obj, W.heap[r]? = some o ∧ o.isCells = false) : W'.heap[k]? = some (.cells cs T fr) := by
  refine (hg.block k (Array.getElem?_eq_some_iff.1 h).1 (fun e => ?_)).trans h
  obtain ⟨o, ho, hc⟩ := hr k e.symm
  rw [h] at ho; cases ho; simp [Obj.isCells] at hc
theorem ownFrom_cells {β : Type} {B k : Nat} (cs : β → Array Value) (T : TypeId) : OwnFrom B (fun s (W : World) => W.heap[k]? = some (.cells (cs s) T (0, 0))) :=
  fun _ _ _ _ hs hg hr => cells_kept hs hg (fun r e => (hr r e).2)
theorem keeps_below {W W' : World} (h : Below W.heap.size W W') : KeepsOthers W W' := ⟨h.size, fun k _ hk _ => (h.block k (Array.getElem?_eq_some_iff.1 hk).1).trans hk⟩
theorem blk_lt {W : World} {k : Nat} {o : Obj} (h : W.heap[k]? = some o) : k < W.heap.size := (Array.getElem?_eq_some_iff.1 h).1
theorem blk_cell {W : World} {k i : Nat} {cs : Array Value} {T : TypeId} {v : Value} (h : W.heap[k]? = some (.cells cs T (0, 0))) (hv : cs[i]? = some v) : W.cell? ⟨k, i, none⟩ = some v := (cell_of_row W k i cs T (0, 0) h).trans hv
theorem blk_free {W : World} {k i : Nat} {cs : Array Value} {T : TypeId} (h : W.heap[k]? = some (.cells cs T (0, 0))) : W.frozen? ⟨k, i, none⟩ = false := frozen_of_row W k i cs T h
theorem blk_set {W : World} {k : Nat} {cs : Array Value} {T : TypeId} (h : W.heap[k]? = some (.cells cs T (0, 0))) (i : Nat) (v : Value) : (W.setCell ⟨k, i, none⟩ v).heap[k]? = some (.cells (cs.setIfInBounds i v) T (0, 0)) := heap_setCell_same W k i cs T v h
theorem blk_far {W : World} {k : Nat} {o : Obj} (h : W.heap[k]? = some o) {b i : Nat} (hne : k ≠ b) (v : Value) : (W.setCell ⟨b, i, none⟩ v).heap[k]? = some o := (Below.heap_setCell W ⟨b, i, none⟩ v k hne).trans h
theorem blk_below {W W' : World} {k B : Nat} {o : Obj} (h : W.heap[k]? = some o) (hb : Below B W W') (hk : k < B) : W'.heap[k]? = some o := (hb.block k hk).trans h
theorem blk_alloc {W : World} {k : Nat} {o : Obj} (h : W.heap[k]? = some o) (o' : Obj) : (W.alloc o').heap[k]? = some o := (Below.heap_alloc W o' k (blk_lt h)).trans h
theorem blk_new (W : World) (o : Obj) : (W.alloc o).heap[W.heap.size]? = some o := World.alloc_heap_new W o
theorem keeps_set {W W' : World} (h : KeepsOthers W W') (a : Addr) (v : Value) : KeepsOthers W (W'.setCell a v) := h.trans (KeepsOthers.setCell _ _ _)
end Go.Proofs.YtppejcmjjjfamaaDoor
