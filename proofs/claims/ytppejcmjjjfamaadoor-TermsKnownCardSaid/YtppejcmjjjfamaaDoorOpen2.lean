/- Arguments opened: spans, small numbers. -/
import Derived.Test.YtppejcmjjjfamaaDoorOpen
namespace Go.Proofs.YtppejcmjjjfamaaDoor
open Go.ChangeShapes Go.WideShapes Go.ChangeAt Go.RowKit

section
variable {H : Type} {enc : TypeId × Value → H} {W : World}
set_option maxRecDepth 100000 in
theorem open_span {v : Value} {d : DataW H} {p : List MemPlace} {r : Reach} {b0 : Nat} (hv : Value.okWide Tryd.prog W r b0 26 v) (h : DataW.Trod enc Tryd.prog W 0 (fun _ => true) true 26 v d p) :
    ∃ g s, v = .agg #[.int .i64 g, .int .i64 s] := by
  have c23 : Tryd.prog.cellsOf 26 = 2 := by kernel_rfl
  obtain ⟨cs, rfl, hsz⟩ := okWide_struct Tryd.underlying26 hv
  obtain ⟨l⟩ := cs
  match l, hsz.trans c23 with
  | [e0, e1], _ =>
    obtain ⟨fuel, hf⟩ := h
    obtain ⟨g, s, rfl, rfl⟩ := open_two Tryd.underlying26 rfl rfl rfl rfl (by simpa [Value.cells] using hf)
    exact ⟨g, s, rfl⟩
end
end Go.Proofs.YtppejcmjjjfamaaDoor
