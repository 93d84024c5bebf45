/- TermsTotals: for every input the call returns true, and each argument reads afterwards as it read before. The package-level table of checks reads as its initialiser lays it; the card ties that to the program's text. -/
import Derived.Test.YtppejcmjjjfamaaDoorTotals
import Derived.Test.YtppejcmjjjfamaaDoorOpen
import Derived.Test.YtppejcmjjjfamaaDoorCards
import Derived.Test.YtppejcmjjjfamaaDoorTie
import Derived.Deep.SlicePairs
import Derived.ChangeOld
import Derived.Stop.Joined
import Derived.LaidByTextLater
import Derived.SevenTiedAt
namespace Go.Proofs.YtppejcmjjjfamaaDoor
open Go.ChangeShapes Go.WideShapes Go.ChangeAt Go.RowKit

theorem open_pairsA {H : Type} {enc : TypeId × Value → H} {W : World} {fuel : Nat} {c : Value} {x : DataW H × List MemPlace} (h : DataW.trod enc Tryd.prog W 0 (fun _ => true) true fuel 44 [c] = some x) :
    ∃ (A : Option Addr) (cap : Nat) (l : List (Int × Int)), c = .slice A l.length cap ∧ PairsA W A l := by
  rcases Go.Deep.open_slice_pairs Tryd.underlying44 Tryd.underlying23 (by kernel_rfl) rfl rfl (by kernel_rfl) (by kernel_rfl) h with ⟨hcs, _⟩ | ⟨a, len, cap, m, n, V0, V1, D0, D1, P0, P1, hcs, _, hl, _, hm, _, hcell⟩
  · simp only [List.cons.injEq, and_true] at hcs
    exact ⟨none, 0, [], hcs, fun h => by simp at h⟩
  · simp only [List.cons.injEq, and_true] at hcs
    simp only [if_true] at hm
    have each : ∀ i, i < len → ∃ q : Int × Int, V0 i = .int .i64 q.1 ∧ V1 i = .int .i64 q.2 := by
      intro i hi
      obtain ⟨_, _, t0, t1⟩ := hcell i (by omega)
      obtain ⟨g, e1⟩ := open_i t0
      obtain ⟨s, e2⟩ := open_i t1
      exact ⟨(g, s), e1, e2⟩
    obtain ⟨q, hq⟩ := Go.Deep.choose_lt each
    have hlen : ((List.range len).map q).length = len := by simp
    refine ⟨some a, cap, (List.range len).map q, by rw [hlen]; exact hcs, fun h0 => ?_⟩
    rw [hlen] at h0
    obtain ⟨b, off, spot⟩ := a
    have h00 := (hcell 0 (by omega)).1
    have hspot : spot = none := by simpa [Addr.add] using World.cell?_spot h00
    subst hspot
    refine ⟨b, off, rfl, by simpa [Addr.add] using cell_lt h00, fun i hi => ?_⟩
    rw [hlen] at hi
    obtain ⟨h1, h2, _, _⟩ := hcell i (by omega)
    obtain ⟨e1, e2⟩ := hq i hi
    have hadd : ∀ j, (⟨b, off, none⟩ : Addr).add j = ⟨b, off + j, none⟩ := fun j => by unfold Addr.add; split <;> simp_all
    rw [hadd, e1] at h1
    rw [hadd, e2, ← Nat.add_assoc] at h2
    rw [h1, h2]
    simp [nth, hi]

set_option maxRecDepth 100000 in
theorem totals_lifted (os : Os) (started : os.Started) (H : Type) (enc : TypeId × Value → H) :
    ReturnsInHanded {} Tryd.checked os 4 .any (fun w args => (Rows.termsTotalsSpec.pre enc Tryd.prog Tryd.f4 [] false w args ∧ laidMetH Tryd.prog [("middling/terms.checks", Rows.laid_middling_terms_checks)] w) ∧ sizedMet enc Tryd.prog Tryd.f4 (OpenSpec.ofChange Rows.termsTotalsSpec) false w args)
      (Rows.termsTotalsSpec.post enc Tryd.prog Tryd.f4 false true false false) := by
  refine returnsInHanded_of_change_and (C := Tryd.checked) (X := fun w _ => laidMetH Tryd.prog [("middling/terms.checks", Rows.laid_middling_terms_checks)] w) (fun _ _ _ hh h => h.of_heap hh) own started (by kernel_rfl) Tryd.func4
    (ChangeSpec.witness_shaped (enc := enc) (C := Tryd.checked) (os := os) (X := fun w _ => laidMetH Tryd.prog [("middling/terms.checks", Rows.laid_middling_terms_checks)] w) false (World.doorLaid Tryd.prog 600 os) #[.agg #[.int .i64 0, .int .i64 0, .int .i64 0, .int .i64 0, .int .i64 0, .slice none 0 0, .slice none 0 0, .int .i64 0, .int .i64 0, .int .i64 0, .int .i64 0], .int .i64 0, .slice none 0 0] 8 rfl (World.shaped_of_RefB (by kernel_rfl) (by kernel_rfl)) (by kernel_rfl) (by kernel_rfl) (by kernel_rfl) (door_met os _)) ?_
  intro W base args ds gs before hval0 hW _ _ hL _
  have hval : ∀ (j : Nat) t v, Tryd.f4.params[j]? = some t → args[j]? = some v → Value.okWide Tryd.prog W .any base t v := hval0
  have hW' := hW
  obtain ⟨p, q, hA0, hV, rfl, hfz, hnd⟩ := hW
  have hA : DataW.TrodAll enc Tryd.prog W 0 (fun _ => true) true Tryd.f4.params.toList args.toList ds p := hA0
  rw [Tryd.params4] at hA hval
  obtain ⟨v0, vs0, d0, ds0, p0, q0, hargs, rfl, rfl, h0, r0⟩ := trodAll_cons hA
  obtain ⟨v1, vs1, d1, ds1, p1, q1, rfl, rfl, rfl, h1, r1⟩ := trodAll_cons r0
  obtain ⟨v2, vs2, d2, ds2, p2, q2, rfl, rfl, rfl, h2, r2⟩ := trodAll_cons r1
  obtain ⟨rfl, rfl, rfl⟩ := trodAll_nil r2
  obtain rfl : args = #[v0, v1, v2] := by cases args; simp_all
  obtain ⟨rfl, rfl⟩ := trodVars_none hV
  have lt0 : ∀ x ∈ p0, x.block < W.heap.size := by obtain ⟨m, hm⟩ := h0; exact DataW.trod_lt m _ _ _ hm
  have lt1 : ∀ x ∈ p1, x.block < W.heap.size := by obtain ⟨m, hm⟩ := h1; exact DataW.trod_lt m _ _ _ hm
  have lt2 : ∀ x ∈ p2, x.block < W.heap.size := by obtain ⟨m, hm⟩ := h2; exact DataW.trod_lt m _ _ _ hm
  obtain ⟨t, G, S, gc, sc, rfl, hT⟩ := open_terms (hval 0 28 v0 rfl rfl) h0
  obtain ⟨m, rfl⟩ : ∃ m, v1 = .int .i64 m := by
    obtain ⟨m, e, _⟩ := open_int Tryd.underlying3 (hval 1 3 v1 rfl rfl) h1
    exact ⟨m, e⟩
  obtain ⟨A, c, l, rfl, hP⟩ : ∃ (A : Option Addr) (c : Nat) (l : List (Int × Int)), v2 = .slice A l.length c ∧ PairsA W A l := by
    obtain ⟨fuel, hf⟩ := h2
    have c44 : Tryd.prog.cellsOf 44 = 1 := by kernel_rfl
    obtain ⟨a0, l0, k0, hv2⟩ : ∃ a0 l0 k0, v2 = .slice a0 l0 k0 := okWide_slice Tryd.underlying44 (hval 2 44 v2 rfl rfl)
    subst hv2
    exact open_pairsA (x := (d2, p2)) (by simpa [Value.cells] using hf)
  clear hA0 hval0
  refine (totals_any t G S gc sc m l A c W (of_laid hL) hT hP).mono fun e W' ⟨he, bel⟩ => ?_
  subst he
  exact ⟨_, rfl, _, _, _, [], _, [], hW', trodAll_mk1 (shut_bool Tryd.underlying4 _), (trodAll_cons_mk (Below.trod laidOut (by kernel_rfl) (of_decide_eq_true (by kernel_rfl)) h0 bel lt0) (trodAll_cons_mk (Below.trod laidOut (by kernel_rfl) (of_decide_eq_true (by kernel_rfl)) h1 bel lt1) (trodAll_cons_mk (Below.trod laidOut (by kernel_rfl) (of_decide_eq_true (by kernel_rfl)) h2 bel lt2) trodAll_mk0))), rfl, bel.frame _, fun h => by cases h⟩

end Go.Proofs.YtppejcmjjjfamaaDoor
