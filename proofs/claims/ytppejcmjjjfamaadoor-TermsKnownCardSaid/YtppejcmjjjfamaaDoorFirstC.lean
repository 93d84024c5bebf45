/- terms.first, of classes; the order of values. -/
import Derived.Test.YtppejcmjjjfamaaDoorClasses
import Derived.Test.YtppejcmjjjfamaaDoorRangeAux
import Derived.Test.YtppejcmjjjfamaaDoorFirstPlain
import Derived.Test.YtppejcmjjjfamaaDoorOpened
namespace Go.Proofs.YtppejcmjjjfamaaDoor
open Go.RowKit Go.Shelf
attribute [local go_sem] Oper.semAt_some

set_option maxHeartbeats 400000 in
theorem isNaNI_any (x : Int) (w : World) : Calls Tryd.prog 121 #[.int .i64 x] w fun e w' => e = .returned (.bool false) ∧ w = w' := by
  have h : (x != x) = false := by simp
  go_enter Tryd.func121, Tryd.ntmps121
  go_wp2
  go_ret
  exact ⟨rfl, rfl⟩
set_option maxHeartbeats 400000 in
theorem cmpI_any (x y : Int) (w : World) : Calls Tryd.prog 96 #[.int .i64 x, .int .i64 y] w fun e w' => e = .returned (.int .i64 (cmpZ x y)) ∧ w = w' := by
  by_cases h1 : x < y
  · have Hf := Lib.hid (show cmpZ x y = -1 by simp [cmpZ, h1])
    go_enter Tryd.func96, Tryd.ntmps96
    go_wp2_with (go_at_call 121; refine (isNaNI_any _ _).mono ?_; rintro e w' ⟨rfl, rfl⟩)
    go_ret
    exact ⟨ret_int (by rw [Hf.out]), rfl⟩
  · by_cases h2 : y < x
    · have Hf := Lib.hid (show cmpZ x y = 1 by simp [cmpZ, h1, h2])
      go_enter Tryd.func96, Tryd.ntmps96
      go_wp2_with (go_at_call 121; refine (isNaNI_any _ _).mono ?_; rintro e w' ⟨rfl, rfl⟩)
      go_ret
      exact ⟨ret_int (by rw [Hf.out]), rfl⟩
    · have Hf := Lib.hid (show cmpZ x y = 0 by simp [cmpZ, h1, h2])
      go_enter Tryd.func96, Tryd.ntmps96
      go_wp2_with (go_at_call 121; refine (isNaNI_any _ _).mono ?_; rintro e w' ⟨rfl, rfl⟩)
      go_ret
      exact ⟨ret_int (by rw [Hf.out]), rfl⟩
theorem cmpZ_bd (x y : Int) : -1 ≤ cmpZ x y ∧ cmpZ x y ≤ 1 := by unfold cmpZ; split <;> (try split) <;> omega

set_option maxRecDepth 100000 in
set_option maxHeartbeats 1000000 in
theorem range2_any (t : TT) (G S : Option Addr) (gc sc : Nat) (g1 s1 g2 s2 sg : Int) (bs bv : Nat) (w : World) (hT : TermsA w G S t) (ht : tabs t) (hg1 : 1 ≤ g1 ∧ g1 ≤ 9) (hs1 : 1 ≤ s1 ∧ s1 ≤ 9) (hg2 : 1 ≤ g2 ∧ g2 ≤ 9) (hs2 : 1 ≤ s2 ∧ s2 ≤ 9)
    (hsg : sg = 1 ∨ sg = -1) (cs : w.cell? ⟨bs, 0, none⟩ = some (.int .i64 sg)) (cv : w.cell? ⟨bv, 0, none⟩ = some (.func (.func 80) #[.agg #[.int .i64 t.bg, .int .i64 t.bs, .int .i64 t.price, .int .i64 t.worst, .int .i64 t.short, .slice G t.grades.length gc, .slice S t.staples.length sc, .int .i64 t.dlo, .int .i64 t.dhi, .int .i64 t.bales, .int .i64 t.fee]] #[])) :
    Calls Tryd.prog 95 #[.agg #[.int .i64 g1, .int .i64 s1], .agg #[.int .i64 g2, .int .i64 s2], .pointer (some ⟨bs, 0, none⟩), .pointer (some ⟨bv, 0, none⟩)] w
      fun e w' => e = .returned (.int .i64 (sg * cmpZ (valueI t g1 s1) (valueI t g2 s2))) ∧ Below w.heap.size w w' := by
  have hbd := cmpZ_bd (valueI t g1 s1) (valueI t g2 s2)
  have hV1 := fun W h => valueT_any t G S gc sc g1 s1 W h ht hg1 hs1
  have hV2 := fun W h => valueT_any t G S gc sc g2 s2 W h ht hg2 hs2
  have hbs : bs < w.heap.size := by
    rcases Nat.lt_or_ge bs w.heap.size with h1 | h1
    · exact h1
    · simp [World.cell?, Array.getElem?_eq_none h1] at cs
  have hbv : bv < w.heap.size := by
    rcases Nat.lt_or_ge bv w.heap.size with h1 | h1
    · exact h1
    · simp [World.cell?, Array.getElem?_eq_none h1] at cv
  generalize valueI t g1 s1 = x at *
  generalize valueI t g2 s2 = y at *
  have hm : IntKind.i64.wrap (sg * cmpZ x y) = sg * cmpZ x y := IntWalk.i64_in _ (by rcases hsg with rfl | rfl <;> omega)
  have HV1 := Lib.hid hV1
  have HV2 := Lib.hid hV2
  have HT := Lib.hid hT
  clear hV1 hV2 hT ht hg1 hs1 hg2 hs2 hsg hbd
  go_enter Tryd.func95, Tryd.ntmps95
  go_wp2_with fail
  go_region_held3 (fun w' => w'.cell? ⟨bs, 0, none⟩ = some (.int .i64 sg) ∧ w'.cell? ⟨bv, 0, none⟩ = some (.func (.func 80) #[.agg #[.int .i64 t.bg, .int .i64 t.bs, .int .i64 t.price, .int .i64 t.worst, .int .i64 t.short, .slice G t.grades.length gc, .slice S t.staples.length sc, .int .i64 t.dlo, .int .i64 t.dhi, .int .i64 t.bales, .int .i64 t.fee]] #[]) ∧ w'.cell? ⟨w.heap.size, 0, none⟩ = some (.int .i64 g1) ∧ w'.cell? ⟨w.heap.size, 1, none⟩ = some (.int .i64 s1) ∧ w'.cell? ⟨w.heap.size + 1, 0, none⟩ = some (.int .i64 g2) ∧ w'.cell? ⟨w.heap.size + 1, 1, none⟩ = some (.int .i64 s2)) (first | (simp [*, go_sem]; done) | (simp (disch := (first | omega | (simp only [World.size_alloc, World.size_drew, World.size_setCell]; omega) | (simp; done))) [*, go_sem]; done)) (first
    | (go_at_call_of 80 (Value.agg #[.int .i64 g1, .int .i64 s1]); refine (HV1.out _ (HT.out.below (by repeat' (first | (with_reducible exact Below.refl _ _) | (with_reducible assumption) | (with_reducible refine Below.alloc ?_ ?_ _) | (with_reducible refine Below.drew ?_) | (with_reducible refine below_drewN ?_ _) | (with_reducible refine Below.setCell ?_ ?_ _) | (with_reducible refine below_up ?_ (by assumption)) | go_size)))).mono ?_; rintro e w' ⟨rfl, hb⟩; obtain ⟨hc, hf⟩ := bcell hb; have hz := (hb).size; (try simp at hz); have hz2 : w.heap.size < (w').heap.size := (by omega); (try have hq1 : w.heap.size + 1 < (w').heap.size := (by omega)); (try have hq2 : w.heap.size + 1 + 1 < (w').heap.size := (by omega)); (try have hq3 : w.heap.size + 1 + 1 + 1 < (w').heap.size := (by omega)); have hcw0 := fun o => hc (w.heap.size) o (by first | assumption | omega | (simp; done) | (simp; omega)); have hcw1 := fun o => hc (w.heap.size + 1) o (by first | assumption | omega | (simp; done) | (simp; omega)))
    | (go_at_call_of 80 (Value.agg #[.int .i64 g2, .int .i64 s2]); refine (HV2.out _ (HT.out.below (by repeat' (first | (with_reducible exact Below.refl _ _) | (with_reducible assumption) | (with_reducible refine Below.alloc ?_ ?_ _) | (with_reducible refine Below.drew ?_) | (with_reducible refine below_drewN ?_ _) | (with_reducible refine Below.setCell ?_ ?_ _) | (with_reducible refine below_up ?_ (by assumption)) | go_size)))).mono ?_; rintro e w' ⟨rfl, hb⟩; obtain ⟨hc, hf⟩ := bcell hb; have hz := (hb).size; (try simp at hz); have hz2 : w.heap.size < (w').heap.size := (by omega); (try have hq1 : w.heap.size + 1 < (w').heap.size := (by omega)); (try have hq2 : w.heap.size + 1 + 1 < (w').heap.size := (by omega)); (try have hq3 : w.heap.size + 1 + 1 + 1 < (w').heap.size := (by omega)); have hcw0 := fun o => hc (w.heap.size) o (by first | assumption | omega | (simp; done) | (simp; omega)); have hcw1 := fun o => hc (w.heap.size + 1) o (by first | assumption | omega | (simp; done) | (simp; omega)))
    | (go_at_call 96; refine (cmpI_any _ _ _).mono ?_; rintro e w' ⟨rfl, rfl⟩))
  all_goals go_wp2_with fail
  all_goals go_ret
  all_goals exact ⟨rfl, (by repeat' (first | (with_reducible exact Below.refl _ _) | (with_reducible assumption) | (with_reducible refine Below.alloc ?_ ?_ _) | (with_reducible refine Below.drew ?_) | (with_reducible refine below_drewN ?_ _) | (with_reducible refine Below.setCell ?_ ?_ _) | (with_reducible refine below_up ?_ (by assumption)) | go_size))⟩

/-- the cells of the best one so far: those of a class that is none, if there is none yet -/
def bestCells (b : Option Cls) : Array Value := match b with
  | none => #[.int .i64 0, .int .i64 0]
  | some x => #[.int .i64 x.1.1, .int .i64 x.1.2]
def FirstPostC (ord : Cls → Cls → Int) (S : List Cls → Prop) (w : World) (e : Ending) (w' : World) : Prop :=
  ∃ xs : List Cls, S xs ∧ e = .returned (.tuple #[.agg (bestCells (bestL ord xs)), .bool (bestL ord xs).isSome]) ∧ Below w.heap.size w w'

set_option maxRecDepth 100000 in
set_option maxHeartbeats 1000000 in
theorem firstC_any (gf : Nat) (lb : Array Value) (S : List Cls → Prop) (ord : Cls → Cls → Int) (bs bv : Nat) (w : World) (eg : ∀ args w, (callFunc gf args).run Tryd.prog w = .ok (.enter gf args) w)
    (hseq : SeqM Tryd.prog gf lb encC w.heap.size S w)
    (hord : ∀ (x y : Cls) W, Below w.heap.size w W → Calls Tryd.prog 95 #[.agg #[.int .i64 x.1.1, .int .i64 x.1.2], .agg #[.int .i64 y.1.1, .int .i64 y.1.2], .pointer (some ⟨bs, 0, none⟩), .pointer (some ⟨bv, 0, none⟩)] W
      fun e w' => e = .returned (.int .i64 (ord x y)) ∧ Below W.heap.size W w') :
    Calls Tryd.prog 97 #[.func (.func gf) #[] lb, .func (.func 95) #[] #[.pointer (some ⟨bs, 0, none⟩), .pointer (some ⟨bv, 0, none⟩)]] w (FirstPostC ord S w) := by
  have HO := Lib.hid hord
  have HS := Lib.hid hseq
  have HE := Lib.hid eg
  clear hord hseq eg
  rw [← callsIn_wide (n := 9)]
  refine callsIn_of_wp_marks Tryd.func97 rfl trivial ?_ rfl
  simp only [Tryd.ntmps97, List.size_toArray, List.length_cons, List.length_nil, Nat.reduceAdd, Nat.reduceSub, Array.replicate_succ, Array.replicate_zero, List.push_toArray, List.append_toArray, List.nil_append, List.cons_append]
  gi_wp2
  obtain ⟨W0, hW0⟩ : ∃ W0, (((w.alloc (.cells #[.func (.func 95) #[] #[.pointer (some ⟨bs, 0, none⟩), .pointer (some ⟨bv, 0, none⟩)]] 155)).alloc (.cells #[.int .i64 0, .int .i64 0] 23)).alloc (.cells #[.int .i64 0, .int .i64 0] 23)).alloc (.cells #[.bool false] 4) = W0 := ⟨_, rfl⟩
  have hsz : W0.heap.size = w.heap.size + 4 := by rw [← hW0]; simp
  have e0 : W0.heap[w.heap.size]? = some (.cells #[.func (.func 95) #[] #[.pointer (some ⟨bs, 0, none⟩), .pointer (some ⟨bv, 0, none⟩)]] 155 (0, 0)) := by rw [← hW0]; exact blk_alloc (blk_alloc (blk_alloc (blk_new _ _) _) _) _
  have e1 : W0.heap[w.heap.size + 1]? = some (.cells #[.int .i64 0, .int .i64 0] 23 (0, 0)) := by rw [← hW0]; refine blk_alloc (blk_alloc ?_ _) _; simpa using blk_new (w.alloc _) (.cells #[.int .i64 0, .int .i64 0] 23 (0, 0))
  have e2 : W0.heap[w.heap.size + 2]? = some (.cells #[.int .i64 0, .int .i64 0] 23 (0, 0)) := by rw [← hW0]; refine blk_alloc ?_ _; simpa using blk_new ((w.alloc _).alloc _) (.cells #[.int .i64 0, .int .i64 0] 23 (0, 0))
  have e3 : W0.heap[w.heap.size + 3]? = some (.cells #[.bool false] 4 (0, 0)) := by rw [← hW0]; simpa using blk_new (((w.alloc _).alloc _).alloc _) (.cells #[.bool false] 4 (0, 0))
  have hB0 : Below w.heap.size w W0 := by rw [← hW0]; exact (by repeat' (first | (with_reducible exact Below.refl _ _) | (with_reducible assumption) | (with_reducible refine Below.alloc ?_ ?_ _) | (with_reducible refine Below.drew ?_) | (with_reducible refine below_drewN ?_ _) | (with_reducible refine Below.setCell ?_ ?_ _) | (with_reducible refine below_up ?_ (by assumption)) | go_size))
  rw [hW0]
  clear hW0
  refine wp_rangeM (gf := gf) (lb := lb) rfl HE.out HS.out hB0.size hB0 (fun _ => rfl)
    (fun pre W => W.heap[w.heap.size]? = some (.cells #[.func (.func 95) #[] #[.pointer (some ⟨bs, 0, none⟩), .pointer (some ⟨bv, 0, none⟩)]] 155 (0, 0)) ∧ W.heap[w.heap.size + 1]? = some (.cells #[.int .i64 0, .int .i64 0] 23 (0, 0)) ∧
      W.heap[w.heap.size + 2]? = some (.cells (bestCells (bestL ord pre)) 23 (0, 0)) ∧ W.heap[w.heap.size + 3]? = some (.cells #[.bool (bestL ord pre).isSome] 4 (0, 0)) ∧ Below w.heap.size w W)
    (fun _ _ _ => False)
    (OwnFrom.and (ownFrom_cells _ _) (OwnFrom.and (ownFrom_cells _ _) (OwnFrom.and (ownFrom_cells _ _) (OwnFrom.and (ownFrom_cells _ _) (ownFrom_below (Nat.le_refl _) hB0.size)))))
    (fun _ _ _ _ _ hs _ _ => hs)
    ⟨e0, e1, e2, e3, hB0⟩
    (fun x a' W => ∃ Bx, w.heap.size + 3 < Bx ∧ W.heap[Bx]? = some (.cells #[.int .i64 x.1.1, .int .i64 x.1.2] 23 (0, 0)) ∧
      a' = { tmps := #[.func (.func gf) #[] lb, .func (.func 95) #[] #[.pointer (some ⟨bs, 0, none⟩), .pointer (some ⟨bv, 0, none⟩)], undef, .pointer (some ⟨w.heap.size, 0, none⟩), .pointer (some ⟨w.heap.size + 1, 0, none⟩), .bool false,
          .pointer (some ⟨w.heap.size + 1 + 1, 0, none⟩), .pointer (some ⟨w.heap.size + 1 + 1 + 1, 0, none⟩), .pointer (some ⟨Bx, 0, none⟩), .func (.func gf) #[] lb, .agg #[.int .i64 x.1.1, .int .i64 x.1.2], undef, undef, undef, undef, undef, undef, undef, undef, undef, undef, undef, undef], defers := [] })
    (fun x a' _ X Y row hs hg hr => by
      obtain ⟨Bx, h1, h2, h3⟩ := hs
      exact ⟨Bx, h1, cells_kept h2 hg (fun r e => (hr r e).2), h3⟩)
    ?assign ?body ?done ?stop
  case assign =>
    rintro l pre x W K ⟨i0, i1, i2, i3, hB⟩ hK
    simp only [encC]
    gi_wp2
    exact hK _ _ ((KeepsOthers.alloc _ _).from _) ((Below.refl _ W).alloc hB.size _) ⟨blk_alloc i0 _, blk_alloc i1 _, blk_alloc i2 _, blk_alloc i3 _, hB.alloc hB.size _⟩ ⟨W.heap.size, by have := blk_lt i3; omega, blk_new _ _, rfl⟩
  case body =>
    rintro l pre x a' W hl _ ⟨i0, i1, i2, i3, hB⟩ ⟨Bx, hBx, hX, rfl⟩
    have k0 := blk_cell (i := 0) i0 rfl
    have x0 := blk_cell (i := 0) hX rfl
    have x1 := blk_cell (i := 1) hX rfl
    have f2 := fun i => blk_free (i := i) i2
    have f3 := fun i => blk_free (i := i) i3
    cases hb : bestL ord pre with
    | none =>
      rw [hb] at i2 i3
      have b0 := blk_cell (i := 0) i2 rfl
      have b1 := blk_cell (i := 1) i2 rfl
      have k3 := blk_cell (i := 0) i3 rfl
      have Hs := Lib.hid (show bestL ord (pre ++ [x]) = some x by rw [bestL_snoc, hb]; rfl)
      have HI2 := Lib.hid i2
      have HI3 := Lib.hid i3
      have HI0 := Lib.hid i0
      have HI1 := Lib.hid i1
      simp only [Option.isSome] at k3
      clear i0 i1 i2 i3 hX hb
      gi_wp2
      refine ⟨fun _ h => (by cases h), ?_⟩
      gi_wp2
      exact ⟨(keeps_set (keeps_set (keeps_set (KeepsOthers.refl _) _ _) _ _) _ _).from _, (by repeat' (first | (with_reducible exact Below.refl _ _) | (with_reducible assumption) | (with_reducible refine Below.alloc ?_ ?_ _) | (with_reducible refine Below.drew ?_) | (with_reducible refine below_drewN ?_ _) | (with_reducible refine Below.setCell ?_ ?_ _) | (with_reducible refine below_up ?_ (by assumption)) | go_size)),
        blk_far (blk_far (blk_far HI0.out (by omega) _) (by omega) _) (by omega) _, blk_far (blk_far (blk_far HI1.out (by omega) _) (by omega) _) (by omega) _,
        by rw [Hs.out]; exact blk_far (blk_set (blk_set HI2.out 0 _) 1 _) (by omega) _, by rw [Hs.out]; exact blk_set (blk_far (blk_far HI3.out (by omega) _) (by omega) _) 0 _, (by repeat' (first | (with_reducible exact Below.refl _ _) | (with_reducible assumption) | (with_reducible refine Below.alloc ?_ ?_ _) | (with_reducible refine Below.drew ?_) | (with_reducible refine below_drewN ?_ _) | (with_reducible refine Below.setCell ?_ ?_ _) | (with_reducible refine below_up ?_ (by assumption)) | go_size))⟩
    | some y =>
      rw [hb] at i2 i3
      have b0 := blk_cell (i := 0) (v := .int .i64 y.1.1) i2 rfl
      have b1 := blk_cell (i := 1) (v := .int .i64 y.1.2) i2 rfl
      have k3 := blk_cell (i := 0) i3 rfl
      have l0 := blk_lt i0
      have l2 := blk_lt i2
      have l3 := blk_lt i3
      have l4 := blk_lt hX
      have Hs := Lib.hid (show bestL ord (pre ++ [x]) = if ord x y < 0 then some x else some y by rw [bestL_snoc, hb]; rfl)
      have HI2 := Lib.hid i2
      have HI3 := Lib.hid i3
      have HI0 := Lib.hid i0
      have HI1 := Lib.hid i1
      simp only [Option.isSome] at k3
      clear i0 i1 i2 i3 hX hb
      by_cases hlt : ord x y < 0
      · have Hs2 := Lib.hid (show bestL ord (pre ++ [x]) = some x by rw [Hs.out, if_pos hlt])
        gi_wp2
        refine ⟨trivial, (CallsIn.inRound l (callsIn_wide.2 (HO.out x y _ hB))).mono ?_⟩
        rintro e W1 ⟨rfl, hb1⟩
        have hbm : Below w.heap.size W W1 := hb1.mono hB.size
        have hbw : Below w.heap.size w W1 := hB.trans hbm
        obtain ⟨hc, hf⟩ := bcell hb1
        have hz := hb1.size
        have hy1 : Bx < W1.heap.size := (by omega)
        have hy2 : w.heap.size + 1 + 1 < W1.heap.size := (by omega)
        have hy3 : w.heap.size + 1 + 1 + 1 < W1.heap.size := (by omega)
        gi_wp2
        exact ⟨(keeps_set (keeps_set (keeps_set (keeps_below hb1) _ _) _ _) _ _).from _, (by repeat' (first | (with_reducible exact Below.refl _ _) | (with_reducible assumption) | (with_reducible refine Below.alloc ?_ ?_ _) | (with_reducible refine Below.drew ?_) | (with_reducible refine below_drewN ?_ _) | (with_reducible refine Below.setCell ?_ ?_ _) | (with_reducible refine below_up ?_ (by assumption)) | go_size)),
          blk_far (blk_far (blk_far (blk_below HI0.out hb1 (by omega)) (by omega) _) (by omega) _) (by omega) _, blk_far (blk_far (blk_far (blk_below HI1.out hb1 (by omega)) (by omega) _) (by omega) _) (by omega) _,
          by rw [Hs2.out]; exact blk_far (blk_set (blk_set (blk_below HI2.out hb1 (by omega)) 0 _) 1 _) (by omega) _, by rw [Hs2.out]; exact blk_set (blk_far (blk_far (blk_below HI3.out hb1 (by omega)) (by omega) _) (by omega) _) 0 _, (by repeat' (first | (with_reducible exact Below.refl _ _) | (with_reducible assumption) | (with_reducible refine Below.alloc ?_ ?_ _) | (with_reducible refine Below.drew ?_) | (with_reducible refine below_drewN ?_ _) | (with_reducible refine Below.setCell ?_ ?_ _) | (with_reducible refine below_up ?_ (by assumption)) | go_size))⟩
      · have Hs2 := Lib.hid (show bestL ord (pre ++ [x]) = some y by rw [Hs.out, if_neg hlt])
        gi_wp2
        refine ⟨trivial, (CallsIn.inRound l (callsIn_wide.2 (HO.out x y _ hB))).mono ?_⟩
        rintro e W1 ⟨rfl, hb1⟩
        gi_wp2
        exact ⟨(keeps_below hb1).from _, hb1.mono hB.size, blk_below HI0.out hb1 (by omega), blk_below HI1.out hb1 (by omega), by rw [Hs2.out]; exact blk_below HI2.out hb1 (by omega), by rw [Hs2.out]; exact blk_below HI3.out hb1 (by omega), hB.trans (hb1.mono hB.size)⟩
  case done =>
    rintro D xs W hD hS ⟨i0, i1, i2, i3, hB⟩ hK
    have f1 := fun i => blk_free (i := i) i1
    have z0 := blk_cell (i := 0) i1 rfl
    have z1 := blk_cell (i := 1) i1 rfl
    have k3 := blk_cell (i := 0) i3 rfl
    have HI2 := Lib.hid i2
    have HI1 := Lib.hid i1
    clear i0 i1 i2 i3
    obtain ⟨p, q, hpq⟩ : ∃ p q, bestCells (bestL ord xs) = #[.int .i64 p, .int .i64 q] := by
      cases bestL ord xs with
      | none => exact ⟨0, 0, rfl⟩
      | some x => exact ⟨_, _, rfl⟩
    have b0 := blk_cell (i := 0) HI2.out (by rw [hpq]; rfl)
    have b1 := blk_cell (i := 1) HI2.out (by rw [hpq]; rfl)
    have HP := Lib.hid hpq
    obtain ⟨fd, hfd⟩ : ∃ fd, (bestL ord xs).isSome = fd := ⟨_, rfl⟩
    rw [hfd] at k3
    have HF := Lib.hid hfd
    clear hpq hfd
    gi_wp2
    gi_region
    all_goals gi_wp2
    have hD1 : D ≠ w.heap.size + 1 := by omega
    have hK2 := blk_far (blk_far hK hD1 (.int .i64 p) (i := 0)) hD1 (.int .i64 q) (i := 1)
    have hsW := blk_lt HI1.out
    refine ⟨by simp, .inl ⟨_, _, rfl, run_takeDeferred (ds := []) (by exact hK2), ?_⟩⟩
    have p0 : (((W.setCell ⟨w.heap.size + 1, 0, none⟩ (.int .i64 p)).setCell ⟨w.heap.size + 1, 1, none⟩ (.int .i64 q)).drew.putObj D (.deferred none)).cell? ⟨w.heap.size + 1, 0, none⟩ = some (.int .i64 p) := by
      refine blk_cell (cs := #[.int .i64 p, .int .i64 q]) (T := 23) ?_ rfl
      refine (World.putObj_heap_other (by omega)).trans ?_
      exact blk_set (blk_set HI1.out 0 _) 1 _
    have p1 : (((W.setCell ⟨w.heap.size + 1, 0, none⟩ (.int .i64 p)).setCell ⟨w.heap.size + 1, 1, none⟩ (.int .i64 q)).drew.putObj D (.deferred none)).cell? ⟨w.heap.size + 1, 1, none⟩ = some (.int .i64 q) := by
      refine blk_cell (cs := #[.int .i64 p, .int .i64 q]) (T := 23) ?_ rfl
      refine (World.putObj_heap_other (by omega)).trans ?_
      exact blk_set (blk_set HI1.out 0 _) 1 _
    refine ⟨.tuple #[.agg #[.int .i64 p, .int .i64 q], .bool fd], by simp [results, Tryd.results97, go_sem, p0, p1], ?_⟩
    refine ⟨xs, hS, by rw [HP.out, HF.out], ?_⟩
    have hb1 : Below w.heap.size w (((W.setCell ⟨w.heap.size + 1, 0, none⟩ (.int .i64 p)).setCell ⟨w.heap.size + 1, 1, none⟩ (.int .i64 q)).drew) := (by repeat' (first | (with_reducible exact Below.refl _ _) | (with_reducible assumption) | (with_reducible refine Below.alloc ?_ ?_ _) | (with_reducible refine Below.drew ?_) | (with_reducible refine below_drewN ?_ _) | (with_reducible refine Below.setCell ?_ ?_ _) | (with_reducible refine below_up ?_ (by assumption)) | go_size))
    exact hb1.trans (belowK_b (w := w) (Nat.le_refl _) _ D _ _ (by omega) hK2 rfl rfl)
  case stop =>
    rintro D c pre W _ h _
    exact h.elim
end Go.Proofs.YtppejcmjjjfamaaDoor
