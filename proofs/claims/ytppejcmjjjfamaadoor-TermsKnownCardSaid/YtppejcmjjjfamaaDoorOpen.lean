/- Arguments opened: a slice of numbers, terms, a class; and the package-level table. -/
import Derived.Test.YtppejcmjjjfamaaDoorRows
import Derived.Test.YtppejcmjjjfamaaDoorCheckAll
import Derived.ProofKit
import Derived.LaidMore
import Derived.LaidHandle
import Derived.OpenShut
import Derived.Below
import Derived.Carry
namespace Go.Proofs.YtppejcmjjjfamaaDoor
open Go.ChangeShapes Go.WideShapes Go.ChangeAt Go.RowKit

theorem cell_lt {w : World} {a : Addr} {v : Value} (h : w.cell? a = some v) : a.block < w.heap.size := by
  rcases Nat.lt_or_ge a.block w.heap.size with h1 | h1
  · exact h1
  · simp [World.cell?, Array.getElem?_eq_none h1] at h

section
variable {H : Type} {enc : TypeId × Value → H} {W : World}
theorem open_intsA {fuel : Nat} {c : Value} {x : DataW H × List MemPlace} (h : DataW.trod enc Tryd.prog W 0 (fun _ => true) true fuel 24 [c] = some x) :
    ∃ (A : Option Addr) (cap : Nat) (zs : List Int), c = .slice A zs.length cap ∧ IntsA W A zs ∧ zs.length ≤ maxLen := by
  rcases open_ints Tryd.underlying24 Tryd.underlying3 (by kernel_rfl) h with ⟨hcs, _⟩ | ⟨a, len, cap, zs, hcs, _, hl, hm, hz, _, hcell, _⟩
  · simp only [List.cons.injEq, and_true] at hcs
    exact ⟨none, 0, [], hcs, fun h => by simp at h, by simp [maxLen]⟩
  · simp only [List.cons.injEq, and_true] at hcs
    simp only [if_true] at hz
    have hlen : (zs.take len).length = len := by rw [List.length_take]; omega
    refine ⟨some a, cap, zs.take len, by rw [hlen]; exact hcs, fun h0 => ?_, by rw [hlen]; omega⟩
    rw [hlen] at h0
    obtain ⟨b, off, spot⟩ := a
    have h00 := hcell 0 (by omega)
    have hspot : spot = none := by simpa [Addr.add] using World.cell?_spot h00
    subst hspot
    refine ⟨b, off, rfl, by simpa [Addr.add] using cell_lt h00, fun i hi => ?_⟩
    rw [hlen] at hi
    have := hcell i (by omega)
    have hadd : (⟨b, off, none⟩ : Addr).add i = ⟨b, off + i, none⟩ := by unfold Addr.add; split <;> simp_all
    rw [hadd] at this
    rw [this]
    simp [nth, List.getElem?_take, hi]
theorem open_i {fuel : Nat} {c : Value} {x : DataW H × List MemPlace} (h : DataW.trod enc Tryd.prog W 0 (fun _ => true) true fuel 3 [c] = some x) : ∃ n, c = .int .i64 n := by
  obtain ⟨n, e, _⟩ := DataW.trod_int Tryd.underlying3 h
  exact ⟨n, by simpa using e⟩
theorem open_two {fuel : Nat} {t : TypeId} {f0 f1 : Field} (hs : Tryd.prog.underlying t = some (.struct #[f0, f1])) (h0 : f0.type = 3) (h1 : f1.type = 3) (o0 : f0.offset = 0) (o1 : f1.offset = 1)
    {c d : Value} {x : DataW H × List MemPlace} (h : DataW.trod enc Tryd.prog W 0 (fun _ => true) true fuel t [c, d] = some x) : ∃ n m, c = .int .i64 n ∧ d = .int .i64 m := by
  have c3 : Tryd.prog.cellsOf 3 = 1 := by kernel_rfl
  obtain ⟨xs, n, _, _, _, hlen, hg⟩ := DataW.trod_struct hs h
  match xs, hlen with
  | [y0, y1], _ =>
    have g0 := hg 0 f0 rfl
    have g1 := hg 1 f1 rfl
    rw [h0, o0, c3] at g0
    rw [h1, o1, c3] at g1
    obtain ⟨a, ha⟩ := open_i (x := y0) (by simpa using g0)
    obtain ⟨b, hb⟩ := open_i (x := y1) (by simpa using g1)
    exact ⟨a, b, ha, hb⟩

set_option maxRecDepth 100000 in
theorem open_terms {v : Value} {d : DataW H} {p : List MemPlace} {r : Reach} {b0 : Nat} (hv : Value.okWide Tryd.prog W r b0 28 v) (h : DataW.Trod enc Tryd.prog W 0 (fun _ => true) true 28 v d p) :
    ∃ (t : TT) (G S : Option Addr) (gc sc : Nat), v = .agg #[.int .i64 t.bg, .int .i64 t.bs, .int .i64 t.price, .int .i64 t.worst, .int .i64 t.short, .slice G t.grades.length gc, .slice S t.staples.length sc, .int .i64 t.dlo, .int .i64 t.dhi, .int .i64 t.bales, .int .i64 t.fee] ∧ TermsA W G S t := by
  have c3 : Tryd.prog.cellsOf 3 = 1 := by kernel_rfl
  have c24 : Tryd.prog.cellsOf 24 = 1 := by kernel_rfl
  have c23 : Tryd.prog.cellsOf 23 = 2 := by kernel_rfl
  have c26 : Tryd.prog.cellsOf 26 = 2 := by kernel_rfl
  have c28 : Tryd.prog.cellsOf 28 = 11 := by kernel_rfl
  obtain ⟨cs, rfl, hsz⟩ := okWide_struct Tryd.underlying28 hv
  obtain ⟨l⟩ := cs
  match l, hsz.trans c28 with
  | [e0, e1, e2, e3, e4, e5, e6, e7, e8, e9, e10], _ =>
    obtain ⟨fuel, hf⟩ := h
    obtain ⟨xs, n, _, _, _, hlen, hg⟩ := DataW.trod_struct Tryd.underlying28 hf
    match xs, hlen with
    | [y0, y1, y2, y3, y4, y5, y6, y7, y8], _ =>
      have g0 := hg 0 _ rfl
      have g1 := hg 1 _ rfl
      have g2 := hg 2 _ rfl
      have g3 := hg 3 _ rfl
      have g4 := hg 4 _ rfl
      have g5 := hg 5 _ rfl
      have g6 := hg 6 _ rfl
      have g7 := hg 7 _ rfl
      have g8 := hg 8 _ rfl
      obtain ⟨bg, bs, rfl, rfl⟩ := open_two (x := y0) Tryd.underlying23 rfl rfl rfl rfl (by simpa [c23, Value.cells] using g0)
      obtain ⟨price, rfl⟩ := open_i (x := y1) (by simpa [c3, Value.cells] using g1)
      obtain ⟨worst, rfl⟩ := open_i (x := y2) (by simpa [c3, Value.cells] using g2)
      obtain ⟨short, rfl⟩ := open_i (x := y3) (by simpa [c3, Value.cells] using g3)
      obtain ⟨G, gc, grades, rfl, hG, hgl⟩ := open_intsA (x := y4) (by simpa [c24, Value.cells] using g4)
      obtain ⟨S, sc, staples, rfl, hS, hsl⟩ := open_intsA (x := y5) (by simpa [c24, Value.cells] using g5)
      obtain ⟨dlo, dhi, rfl, rfl⟩ := open_two (x := y6) Tryd.underlying26 rfl rfl rfl rfl (by simpa [c26, Value.cells] using g6)
      obtain ⟨bales, rfl⟩ := open_i (x := y7) (by simpa [c3, Value.cells] using g7)
      obtain ⟨fee, rfl⟩ := open_i (x := y8) (by simpa [c3, Value.cells] using g8)
      exact ⟨⟨bg, bs, price, worst, short, grades, staples, dlo, dhi, bales, fee⟩, G, S, gc, sc, rfl, hG, hS, hgl, hsl⟩
set_option maxRecDepth 100000 in
theorem open_class {v : Value} {d : DataW H} {p : List MemPlace} {r : Reach} {b0 : Nat} (hv : Value.okWide Tryd.prog W r b0 23 v) (h : DataW.Trod enc Tryd.prog W 0 (fun _ => true) true 23 v d p) :
    ∃ g s, v = .agg #[.int .i64 g, .int .i64 s] := by
  have c23 : Tryd.prog.cellsOf 23 = 2 := by kernel_rfl
  obtain ⟨cs, rfl, hsz⟩ := okWide_struct Tryd.underlying23 hv
  obtain ⟨l⟩ := cs
  match l, hsz.trans c23 with
  | [e0, e1], _ =>
    obtain ⟨fuel, hf⟩ := h
    obtain ⟨g, s, rfl, rfl⟩ := open_two Tryd.underlying23 rfl rfl rfl rfl (by simpa [Value.cells] using hf)
    exact ⟨g, s, rfl⟩
end

theorem own : ownKnob Tryd.prog.godebug = none := by kernel_rfl
theorem laidOut : laidOutB Tryd.prog = true := by kernel_rfl
theorem gChecks : Tryd.prog.globalNamed "middling/terms.checks" = some 0 := by kernel_rfl
theorem tChecks : (Tryd.prog.globals[0]?).map (·.type) = some 140 := by kernel_rfl
/-- the door's own heap meets the condition on the table -/
theorem door_met (os : Os) (args : Array Value) : laidMetH Tryd.prog [("middling/terms.checks", Rows.laid_middling_terms_checks)] ((World.doorLaid Tryd.prog 600 os).forCall (fun _ _ => 0) ⟨#[], args, []⟩).memory :=
  laidMetH_of_parts3 (fuel := 8) (laidMet_of_run' 8 (by kernel_rfl) (by kernel_rfl)) (by kernel_rfl) (by kernel_rfl)

/-- the bytes of a check's name, but for its last one -/
def name (b : UInt8) : List UInt8 := [109, 105, 100, 100, 108, 105, 110, 103, 47, 116, 101, 114, 109, 115, 46, 99, 104, 101, 99, 107, 115, 36, b]
theorem one_func {W : World} {n : Nat} {v : Value} {x : DataW (List UInt8) × List MemPlace} {b : UInt8} {f0 : FuncId} (hone : ((List.range Tryd.prog.funcs.size).filter fun f => (Tryd.prog.funcs[f]?).any (·.name.toUTF8.data.toList == name b)) = [f0])
    (h : DataW.trod (funcToken Tryd.prog) Tryd.prog W 0 (fun _ => true) true n 139 [v] = some x) (hx : x.1 = .agg [.held (name b)]) : v = .func (.func f0) #[] #[] := by
  have c29 : Tryd.prog.cellsOf 29 = 1 := by kernel_rfl
  obtain ⟨xs, m, _, hxx, _, hl, hg⟩ := DataW.trod_struct Tryd.underlying139 h
  match xs, hl with
  | [y0], _ =>
    have g0 := hg 0 _ rfl
    have g0' : DataW.trod (funcToken Tryd.prog) Tryd.prog W 0 (fun _ => true) true m 29 [v] = some y0 := by simpa [c29] using g0
    rw [hxx] at hx
    simp only [List.map_cons, List.map_nil, DataW.agg.injEq, List.cons.injEq, and_true] at hx
    obtain ⟨y, q⟩ := y0
    simp only at hx
    subst hx
    exact func_of_trod Tryd.underlying29 hone g0'
set_option maxRecDepth 100000 in
theorem of_laid {W : World} (h : laidMetH Tryd.prog [("middling/terms.checks", Rows.laid_middling_terms_checks)] W) : Laid W := by
  obtain ⟨g, t, cs, fuel, p, hg, ht, hv, hd⟩ := h.funcs (List.mem_singleton.2 rfl)
  obtain rfl := Option.some.inj (gChecks.symm.trans hg)
  obtain rfl := Option.some.inj (tChecks.symm.trans ht)
  have c139 : Tryd.prog.cellsOf 139 = 1 := by kernel_rfl
  have c29 : Tryd.prog.cellsOf 29 = 1 := by kernel_rfl
  have c140 : Tryd.prog.cellsOf 140 = 5 := by kernel_rfl
  have hd' : DataW.trod (funcToken Tryd.prog) Tryd.prog W 0 (fun _ => true) true fuel 140 cs.toList = some (.agg [.agg [.held (name 49)], .agg [.held (name 50)], .agg [.held (name 51)], .agg [.held (name 52)], .agg [.held (name 53)]], p) := hd
  clear hd
  obtain ⟨xs, n, _, hx, hlen, hxl, hel⟩ := DataW.trod_array Tryd.underlying140 hd'
  have hcell := fun i => World.var?_cell hg hv i
  obtain ⟨l⟩ := cs
  simp only [c140] at hlen
  match l, hlen, xs, hxl with
  | [v0, v1, v2, v3, v4], _, [x0, x1, x2, x3, x4], _ =>
    simp only [List.map_cons, List.map_nil, Prod.mk.injEq, DataW.agg.injEq, List.cons.injEq, and_true] at hx
    obtain ⟨⟨e0, e1, e2, e3, e4⟩, _⟩ := hx
    have r0 := hel 0 (by omega)
    have r1 := hel 1 (by omega)
    have r2 := hel 2 (by omega)
    have r3 := hel 3 (by omega)
    have r4 := hel 4 (by omega)
    simp [c139] at r0 r1 r2 r3 r4
    have k0 := one_func (b := 49) (f0 := 152) (by kernel_rfl) r0 e0.symm
    have k1 := one_func (b := 50) (f0 := 153) (by kernel_rfl) r1 e1.symm
    have k2 := one_func (b := 51) (f0 := 154) (by kernel_rfl) r2 e2.symm
    have k3 := one_func (b := 52) (f0 := 155) (by kernel_rfl) r3 e3.symm
    have k4 := one_func (b := 53) (f0 := 156) (by kernel_rfl) r4 e4.symm
    subst k0 k1 k2 k3 k4
    have h0 := hcell 0
    exact ⟨cell_lt (a := ⟨0, 0, none⟩) (by simpa using hcell 0), by simpa using hcell 0, by simpa using hcell 1, by simpa using hcell 2, by simpa using hcell 3, by simpa using hcell 4⟩
end Go.Proofs.YtppejcmjjjfamaaDoor
