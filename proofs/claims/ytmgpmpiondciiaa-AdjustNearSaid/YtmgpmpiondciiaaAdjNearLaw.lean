/- imageeditorlaw17.AdjustNear answers true. No condition. -/
import Derived.Test.YtmgpmpiondciiaaAdjNear
import Derived.Test.YtmgpmpiondciiaaAdjAwake
namespace Go.Proofs.Ytmgpmpiondciiaa.Adj
open Go.RowKit Go.Proofs.Ytmgpmpiondciiaa.PAdjustImages Go.Proofs.YtmgpmpiondciiaaW.PrintWords Go.Proofs.YtmgpmpiondciiaaW.PrintMore Go.Proofs.Ytmgpmpiondciiaa.Plain
def max6 (a b c d e f : Int) : Int := mx (mx (mx (mx (mx a b) c) d) e) f
theorem max6_le (a b c d e f y : Int) (h0 : a ≤ y) (h1 : b ≤ y) (h2 : c ≤ y) (h3 : d ≤ y) (h4 : e ≤ y) (h5 : f ≤ y) : decide (max6 a b c d e f ≤ y) = true := by
  apply decide_eq_true
  unfold max6 mx
  repeat' split
  all_goals assumption
theorem max_six (ats : Array TypeId) (ty : TypeId) (a b c d e f : Int) : Builtin.max_ ats ty #[.int .i64 a, .int .i64 b, .int .i64 c, .int .i64 d, .int .i64 e, .int .i64 f] = pure (.int .i64 (max6 a b c d e f)) := by
  simp only [Builtin.max_, List.foldlM_cons, List.foldlM_nil, max2_int, pure_bind]
  rfl
attribute [local go_sem] max_six
set_option maxRecDepth 100000 in
set_option maxHeartbeats 8000000 in
theorem near_invalid (R G B A : Int) (w : World) (h : vldB R G B A = false) :
    Calls Try.prog 17 #[.agg #[.int .i64 R, .int .i64 G, .int .i64 B, .int .i64 A]] w fun e w' => e = .returned (.bool true) ∧ Below w.heap.size w w' := by
  go_enter Try.func17, Try.ntmps17
  go_wp2_with fail
  have X0 := blk_new w (.cells #[.int .i64 R, .int .i64 G, .int .i64 B, .int .i64 A] 45)
  have XB := below_alloc (Below.refl w.heap.size w) (.cells #[.int .i64 R, .int .i64 G, .int .i64 B, .int .i64 A] 45)
  refine (awake_any _).mono ?_
  rintro e w1 ⟨rfl, hb⟩
  have Y0 := blk_below X0 hb
  have YB := step XB hb
  clear X0 XB hb
  have p0 : w1.cell? ⟨w.heap.size, 0, none⟩ = some (.int .i64 R) := (blk_cell Y0 0).trans rfl
  have p1 : w1.cell? ⟨w.heap.size, 1, none⟩ = some (.int .i64 G) := (blk_cell Y0 1).trans rfl
  have p2 : w1.cell? ⟨w.heap.size, 2, none⟩ = some (.int .i64 B) := (blk_cell Y0 2).trans rfl
  have p3 : w1.cell? ⟨w.heap.size, 3, none⟩ = some (.int .i64 A) := (blk_cell Y0 3).trans rfl
  dsimp only
  go_wp2_with fail
  refine (Valid_any R G B A _).mono ?_
  rw [h]
  rintro e w2 ⟨rfl, hb⟩
  have Z0 := blk_below Y0 hb
  have ZB := Aside0.mk (step YB hb)
  clear Y0 YB hb p0 p1 p2 p3
  have p0 : w2.cell? ⟨w.heap.size, 0, none⟩ = some (.int .i64 R) := (blk_cell Z0 0).trans rfl
  have p1 : w2.cell? ⟨w.heap.size, 1, none⟩ = some (.int .i64 G) := (blk_cell Z0 1).trans rfl
  have p2 : w2.cell? ⟨w.heap.size, 2, none⟩ = some (.int .i64 B) := (blk_cell Z0 2).trans rfl
  have p3 : w2.cell? ⟨w.heap.size, 3, none⟩ = some (.int .i64 A) := (blk_cell Z0 3).trans rfl
  dsimp only
  go_wp2_with fail
  refine (awake_any _).mono ?_
  rintro e w3 ⟨rfl, hb⟩
  have VB := Aside0.mk (step ZB.out hb)
  clear Z0 ZB hb p0 p1 p2 p3
  dsimp only
  go_wp2
  go_ret
  exact ⟨rfl, VB.out⟩
set_option maxRecDepth 100000 in
set_option maxHeartbeats 8000000 in
theorem near_clear (R G B A : Int) (w : World) (h : vldB R G B A = true) (h1 : decide (A < 1) = true) :
    Calls Try.prog 17 #[.agg #[.int .i64 R, .int .i64 G, .int .i64 B, .int .i64 A]] w fun e w' => e = .returned (.bool true) ∧ Below w.heap.size w w' := by
  go_enter Try.func17, Try.ntmps17
  go_wp2_with fail
  have X0 := blk_new w (.cells #[.int .i64 R, .int .i64 G, .int .i64 B, .int .i64 A] 45)
  have XB := below_alloc (Below.refl w.heap.size w) (.cells #[.int .i64 R, .int .i64 G, .int .i64 B, .int .i64 A] 45)
  refine (awake_any _).mono ?_
  rintro e w1 ⟨rfl, hb⟩
  have Y0 := blk_below X0 hb
  have YB := step XB hb
  clear X0 XB hb
  have p0 : w1.cell? ⟨w.heap.size, 0, none⟩ = some (.int .i64 R) := (blk_cell Y0 0).trans rfl
  have p1 : w1.cell? ⟨w.heap.size, 1, none⟩ = some (.int .i64 G) := (blk_cell Y0 1).trans rfl
  have p2 : w1.cell? ⟨w.heap.size, 2, none⟩ = some (.int .i64 B) := (blk_cell Y0 2).trans rfl
  have p3 : w1.cell? ⟨w.heap.size, 3, none⟩ = some (.int .i64 A) := (blk_cell Y0 3).trans rfl
  dsimp only
  go_wp2_with fail
  refine (Valid_any R G B A _).mono ?_
  rw [h]
  rintro e w2 ⟨rfl, hb⟩
  have Z0 := blk_below Y0 hb
  have ZB := Aside0.mk (step YB hb)
  clear Y0 YB hb p0 p1 p2 p3
  have p0 : w2.cell? ⟨w.heap.size, 0, none⟩ = some (.int .i64 R) := (blk_cell Z0 0).trans rfl
  have p1 : w2.cell? ⟨w.heap.size, 1, none⟩ = some (.int .i64 G) := (blk_cell Z0 1).trans rfl
  have p2 : w2.cell? ⟨w.heap.size, 2, none⟩ = some (.int .i64 B) := (blk_cell Z0 2).trans rfl
  have p3 : w2.cell? ⟨w.heap.size, 3, none⟩ = some (.int .i64 A) := (blk_cell Z0 3).trans rfl
  dsimp only
  go_wp2_with fail
  refine (awake_any _).mono ?_
  rintro e w3 ⟨rfl, hb⟩
  have VB := Aside0.mk (step ZB.out hb)
  clear Z0 ZB hb p0 p1 p2 p3
  dsimp only
  go_wp2
  go_ret
  exact ⟨rfl, VB.out⟩
set_option maxRecDepth 100000 in
set_option maxHeartbeats 8000000 in
theorem near_gray_law (R A h s l : Int) (w : World) (hv : vldB R R R A = true) (h1 : decide (A < 1) = false) (hw : vldB R R R A = true)
    (HT : Aside0 (∀ w, Calls Try.prog 40 #[.agg #[.int .i64 R, .int .i64 R, .int .i64 R, .int .i64 A]] w fun e w' => e = .returned (.agg #[.int .i64 h, .int .i64 s, .int .i64 l]) ∧ Below w.heap.size w w'))
    (HF : Aside0 (∀ w, Calls Try.prog 42 #[.agg #[.int .i64 h, .int .i64 s, .int .i64 l], .int .i64 A] w fun e w' => e = .returned (.agg #[.int .i64 R, .int .i64 R, .int .i64 R, .int .i64 A]) ∧ Below w.heap.size w w')) :
    Calls Try.prog 17 #[.agg #[.int .i64 R, .int .i64 R, .int .i64 R, .int .i64 A]] w fun e w' => e = .returned (.bool true) ∧ Below w.heap.size w w' := by
  go_enter Try.func17, Try.ntmps17
  go_wp2_with fail
  have X0 := blk_new w (.cells #[.int .i64 R, .int .i64 R, .int .i64 R, .int .i64 A] 45)
  have XB := below_alloc (Below.refl w.heap.size w) (.cells #[.int .i64 R, .int .i64 R, .int .i64 R, .int .i64 A] 45)
  refine (awake_any _).mono ?_
  rintro e w1 ⟨rfl, hb⟩
  have Y0 := blk_below X0 hb
  have YB := step XB hb
  clear X0 XB hb
  have p0 : w1.cell? ⟨w.heap.size, 0, none⟩ = some (.int .i64 R) := (blk_cell Y0 0).trans rfl
  have p1 : w1.cell? ⟨w.heap.size, 1, none⟩ = some (.int .i64 R) := (blk_cell Y0 1).trans rfl
  have p2 : w1.cell? ⟨w.heap.size, 2, none⟩ = some (.int .i64 R) := (blk_cell Y0 2).trans rfl
  have p3 : w1.cell? ⟨w.heap.size, 3, none⟩ = some (.int .i64 A) := (blk_cell Y0 3).trans rfl
  dsimp only
  go_wp2_with fail
  refine (Valid_any R R R A _).mono ?_
  rw [hv]
  rintro e w2 ⟨rfl, hb⟩
  have Z0 := blk_below Y0 hb
  have ZB := Aside0.mk (step YB hb)
  clear Y0 YB hb p0 p1 p2 p3
  have p0 : w2.cell? ⟨w.heap.size, 0, none⟩ = some (.int .i64 R) := (blk_cell Z0 0).trans rfl
  have p1 : w2.cell? ⟨w.heap.size, 1, none⟩ = some (.int .i64 R) := (blk_cell Z0 1).trans rfl
  have p2 : w2.cell? ⟨w.heap.size, 2, none⟩ = some (.int .i64 R) := (blk_cell Z0 2).trans rfl
  have p3 : w2.cell? ⟨w.heap.size, 3, none⟩ = some (.int .i64 A) := (blk_cell Z0 3).trans rfl
  dsimp only
  have z0 := fun o => kept (below_drew (below_alloc (Below.refl _ w2) o)) p0
  have z1 := fun o => kept (below_drew (below_alloc (Below.refl _ w2) o)) p1
  have z2 := fun o => kept (below_drew (below_alloc (Below.refl _ w2) o)) p2
  have z3 := fun o => kept (below_drew (below_alloc (Below.refl _ w2) o)) p3
  have ZL := blk_lt Z0
  go_wp2
  go_region_held3 (fun w' => w'.cell? ⟨w.heap.size, 0, none⟩ = some (.int .i64 R) ∧ w'.cell? ⟨w.heap.size, 1, none⟩ = some (.int .i64 R) ∧ w'.cell? ⟨w.heap.size, 2, none⟩ = some (.int .i64 R) ∧ w'.cell? ⟨w.heap.size, 3, none⟩ = some (.int .i64 A))
    (with_reducible (refine ⟨?_, ?_, ?_, ?_⟩ <;> first | assumption | (simp only [World.cell?_drew]; assumption) | exact z0 _ | exact z1 _ | exact z2 _ | exact z3 _ | exact x0 _ | exact x1 _ | exact x2 _ | exact x3 _ | exact y0 _ | exact y1 _ | exact y2 _ | exact y3 _ | (refine far4 (by first | omega | (dsimp only; omega)) ?_; assumption)))
    ((first | (go_at_call 40; refine (HT.out _).mono ?_; rintro e wA ⟨rfl, hb⟩; have UB : Aside0 (Below w.heap.size w wA) := ⟨step (by (with_reducible repeat (first | refine pw_below_drewN ?_ _ | refine below_drew1 ?_ | refine below_alloc ?_ _)); exact ZB.out) hb⟩; have U0 : Aside0 (wA.heap[w.heap.size]? = some (.cells #[.int .i64 R, .int .i64 R, .int .i64 R, .int .i64 A] 45 (0, 0))) := ⟨blk_below (by (with_reducible repeat (first | refine blk_drewN ?_ _ | refine blk_drew ?_ | refine blk_alloc ?_ _)); exact Z0) hb⟩; have s0 : wA.cell? ⟨w.heap.size, 0, none⟩ = some (.int .i64 R) := (blk_cell U0.out 0).trans rfl; have s1 : wA.cell? ⟨w.heap.size, 1, none⟩ = some (.int .i64 R) := (blk_cell U0.out 1).trans rfl; have s2 : wA.cell? ⟨w.heap.size, 2, none⟩ = some (.int .i64 R) := (blk_cell U0.out 2).trans rfl; have s3 : wA.cell? ⟨w.heap.size, 3, none⟩ = some (.int .i64 A) := (blk_cell U0.out 3).trans rfl; have x0 := fun o => kept (below_alloc (Below.refl _ wA) o) s0; have x1 := fun o => kept (below_alloc (Below.refl _ wA) o) s1; have x2 := fun o => kept (below_alloc (Below.refl _ wA) o) s2; have x3 := fun o => kept (below_alloc (Below.refl _ wA) o) s3; have UL := blk_lt U0.out; try (have T3 : wA.heap[w2.heap.size]? = some (.cells #[.int .i64 0, .int .i64 0, .int .i64 0, .int .i64 0] 45 (0, 0)) := blk_below (by (with_reducible repeat (first | refine blk_drewN ?_ _ | refine blk_drew ?_)); exact blk_new _ _) hb; have TL := blk_lt T3)) | (go_at_call 42; refine (HF.out _).mono ?_; rintro e wB ⟨rfl, hb⟩; have VB : Aside0 (Below w.heap.size w wB) := ⟨step (by (with_reducible repeat (first | refine pw_below_drewN ?_ _ | refine below_drew1 ?_ | refine below_alloc ?_ _)); exact UB.out) hb⟩; have V0 : Aside0 (wB.heap[w.heap.size]? = some (.cells #[.int .i64 R, .int .i64 R, .int .i64 R, .int .i64 A] 45 (0, 0))) := ⟨blk_below (by (with_reducible repeat (first | refine blk_drewN ?_ _ | refine blk_drew ?_ | refine blk_alloc ?_ _)); exact U0.out) hb⟩; have u0 : wB.cell? ⟨w.heap.size, 0, none⟩ = some (.int .i64 R) := (blk_cell V0.out 0).trans rfl; have u1 : wB.cell? ⟨w.heap.size, 1, none⟩ = some (.int .i64 R) := (blk_cell V0.out 1).trans rfl; have u2 : wB.cell? ⟨w.heap.size, 2, none⟩ = some (.int .i64 R) := (blk_cell V0.out 2).trans rfl; have u3 : wB.cell? ⟨w.heap.size, 3, none⟩ = some (.int .i64 A) := (blk_cell V0.out 3).trans rfl; have y0 := fun o => kept (below_alloc (Below.refl _ wB) o) u0; have y1 := fun o => kept (below_alloc (Below.refl _ wB) o) u1; have y2 := fun o => kept (below_alloc (Below.refl _ wB) o) u2; have y3 := fun o => kept (below_alloc (Below.refl _ wB) o) u3; have VL := blk_lt V0.out; first | (have T4 : wB.heap[w2.heap.size]? = some (.cells #[.int .i64 0, .int .i64 0, .int .i64 0, .int .i64 0] 45 (0, 0)) := blk_below (by (with_reducible repeat (first | refine blk_drewN ?_ _ | refine blk_drew ?_ | refine blk_alloc ?_ _)); exact T3) hb; have hz0 : wB.cell? ⟨w2.heap.size, 0, none⟩ = some (.int .i64 0) := (blk_cell T4 0).trans rfl; have hf0 := blk_frozen T4 0; have hz1 : wB.cell? ⟨w2.heap.size, 1, none⟩ = some (.int .i64 0) := (blk_cell T4 1).trans rfl; have hf1 := blk_frozen T4 1; have hz2 : wB.cell? ⟨w2.heap.size, 2, none⟩ = some (.int .i64 0) := (blk_cell T4 2).trans rfl; have hf2 := blk_frozen T4 2; have hz3 : wB.cell? ⟨w2.heap.size, 3, none⟩ = some (.int .i64 0) := (blk_cell T4 3).trans rfl; have hf3 := blk_frozen T4 3) | (have T4 : wB.heap[wA.heap.size]? = some (.cells #[.int .i64 0, .int .i64 0, .int .i64 0, .int .i64 0] 45 (0, 0)) := blk_below (by (with_reducible repeat (first | refine blk_drewN ?_ _ | refine blk_drew ?_)); exact blk_new _ _) hb; have hz0 : wB.cell? ⟨wA.heap.size, 0, none⟩ = some (.int .i64 0) := (blk_cell T4 0).trans rfl; have hf0 := blk_frozen T4 0; have hz1 : wB.cell? ⟨wA.heap.size, 1, none⟩ = some (.int .i64 0) := (blk_cell T4 1).trans rfl; have hf1 := blk_frozen T4 1; have hz2 : wB.cell? ⟨wA.heap.size, 2, none⟩ = some (.int .i64 0) := (blk_cell T4 2).trans rfl; have hf2 := blk_frozen T4 2; have hz3 : wB.cell? ⟨wA.heap.size, 3, none⟩ = some (.int .i64 0) := (blk_cell T4 3).trans rfl; have hf3 := blk_frozen T4 3) | skip)))
  · have T0 := blk_alloc V0.out (.cells #[.int .i64 R, .int .i64 R, .int .i64 R, .int .i64 A] 45)
    have T1 := blk_new wB (.cells #[.int .i64 R, .int .i64 R, .int .i64 R, .int .i64 A] 45)
    have TB := Aside0.mk (below_alloc VB.out (.cells #[.int .i64 R, .int .i64 R, .int .i64 R, .int .i64 A] 45))
    clear V0 VB U0 UB Z0 ZB
    go_wp2_with fail
    refine (Valid_any R R R A _).mono ?_
    rw [hw]
    rintro e w5 ⟨rfl, hb⟩
    replace T0 := blk_below T0 hb
    replace T1 := blk_below T1 hb
    replace TB := Aside0.mk (step TB.out hb)
    clear hb
    have a0 : w5.cell? ⟨w.heap.size, 0, none⟩ = some (.int .i64 R) := (blk_cell T0 0).trans rfl
    have a1 : w5.cell? ⟨w.heap.size, 1, none⟩ = some (.int .i64 R) := (blk_cell T0 1).trans rfl
    have a2 : w5.cell? ⟨w.heap.size, 2, none⟩ = some (.int .i64 R) := (blk_cell T0 2).trans rfl
    have a3 : w5.cell? ⟨w.heap.size, 3, none⟩ = some (.int .i64 A) := (blk_cell T0 3).trans rfl
    have b0 : w5.cell? ⟨wB.heap.size, 0, none⟩ = some (.int .i64 R) := (blk_cell T1 0).trans rfl
    have b1 : w5.cell? ⟨wB.heap.size, 1, none⟩ = some (.int .i64 R) := (blk_cell T1 1).trans rfl
    have b2 : w5.cell? ⟨wB.heap.size, 2, none⟩ = some (.int .i64 R) := (blk_cell T1 2).trans rfl
    have b3 : w5.cell? ⟨wB.heap.size, 3, none⟩ = some (.int .i64 A) := (blk_cell T1 3).trans rfl
    clear T0 T1
    dsimp only
    go_wp2
    go_ret
    exact ⟨rfl, TB.out⟩
  · generalize hX : ((((wB.setCell ⟨wA.heap.size, 0, none⟩ (.int .i64 R)).setCell ⟨wA.heap.size, 1, none⟩ (.int .i64 R)).setCell ⟨wA.heap.size, 2, none⟩ (.int .i64 R)).setCell ⟨wA.heap.size, 3, none⟩ (.int .i64 A)) = X
    have T1 : X.heap[wA.heap.size]? = some (.cells #[.int .i64 R, .int .i64 R, .int .i64 R, .int .i64 A] 45 (0, 0)) := by rw [← hX]; exact blk_put (blk_put (blk_put (blk_put T4 0 _ rfl) 1 _ rfl) 2 _ rfl) 3 _ rfl
    have T0 : X.heap[w.heap.size]? = some (.cells #[.int .i64 R, .int .i64 R, .int .i64 R, .int .i64 A] 45 (0, 0)) := by rw [← hX]; exact blk_far (blk_far (blk_far (blk_far V0.out (by show w.heap.size ≠ wA.heap.size; omega) _) (by show w.heap.size ≠ wA.heap.size; omega) _) (by show w.heap.size ≠ wA.heap.size; omega) _) (by show w.heap.size ≠ wA.heap.size; omega) _
    have TB : Aside0 (Below w.heap.size w X) := ⟨by rw [← hX]; repeat (first | exact VB.out | refine below_set ?_ (by omega))⟩
    clear hX V0 VB U0 UB Z0 ZB hz0 hz1 hz2 hz3 hf0 hf1 hf2 hf3
    have c0 : X.cell? ⟨wA.heap.size, 0, none⟩ = some (.int .i64 R) := (blk_cell T1 0).trans rfl
    have c1 : X.cell? ⟨wA.heap.size, 1, none⟩ = some (.int .i64 R) := (blk_cell T1 1).trans rfl
    have c2 : X.cell? ⟨wA.heap.size, 2, none⟩ = some (.int .i64 R) := (blk_cell T1 2).trans rfl
    have c3 : X.cell? ⟨wA.heap.size, 3, none⟩ = some (.int .i64 A) := (blk_cell T1 3).trans rfl
    go_wp2_with fail
    refine (Valid_any R R R A _).mono ?_
    rw [hw]
    rintro e w5 ⟨rfl, hb⟩
    replace T0 := blk_below T0 hb
    replace T1 := blk_below T1 hb
    replace TB := Aside0.mk (step TB.out hb)
    clear hb c0 c1 c2 c3
    have a0 : w5.cell? ⟨w.heap.size, 0, none⟩ = some (.int .i64 R) := (blk_cell T0 0).trans rfl
    have a1 : w5.cell? ⟨w.heap.size, 1, none⟩ = some (.int .i64 R) := (blk_cell T0 1).trans rfl
    have a2 : w5.cell? ⟨w.heap.size, 2, none⟩ = some (.int .i64 R) := (blk_cell T0 2).trans rfl
    have a3 : w5.cell? ⟨w.heap.size, 3, none⟩ = some (.int .i64 A) := (blk_cell T0 3).trans rfl
    have b0 : w5.cell? ⟨wA.heap.size, 0, none⟩ = some (.int .i64 R) := (blk_cell T1 0).trans rfl
    have b1 : w5.cell? ⟨wA.heap.size, 1, none⟩ = some (.int .i64 R) := (blk_cell T1 1).trans rfl
    have b2 : w5.cell? ⟨wA.heap.size, 2, none⟩ = some (.int .i64 R) := (blk_cell T1 2).trans rfl
    have b3 : w5.cell? ⟨wA.heap.size, 3, none⟩ = some (.int .i64 A) := (blk_cell T1 3).trans rfl
    clear T0 T1
    dsimp only
    go_wp2
    go_ret
    exact ⟨rfl, TB.out⟩
  · generalize hX : ((((wB.setCell ⟨w2.heap.size, 0, none⟩ (.int .i64 R)).setCell ⟨w2.heap.size, 1, none⟩ (.int .i64 R)).setCell ⟨w2.heap.size, 2, none⟩ (.int .i64 R)).setCell ⟨w2.heap.size, 3, none⟩ (.int .i64 A)) = X
    have T1 : X.heap[w2.heap.size]? = some (.cells #[.int .i64 R, .int .i64 R, .int .i64 R, .int .i64 A] 45 (0, 0)) := by rw [← hX]; exact blk_put (blk_put (blk_put (blk_put T4 0 _ rfl) 1 _ rfl) 2 _ rfl) 3 _ rfl
    have T0 : X.heap[w.heap.size]? = some (.cells #[.int .i64 R, .int .i64 R, .int .i64 R, .int .i64 A] 45 (0, 0)) := by rw [← hX]; exact blk_far (blk_far (blk_far (blk_far V0.out (by show w.heap.size ≠ w2.heap.size; omega) _) (by show w.heap.size ≠ w2.heap.size; omega) _) (by show w.heap.size ≠ w2.heap.size; omega) _) (by show w.heap.size ≠ w2.heap.size; omega) _
    have TB : Aside0 (Below w.heap.size w X) := ⟨by rw [← hX]; repeat (first | exact VB.out | refine below_set ?_ (by omega))⟩
    clear hX V0 VB U0 UB Z0 ZB hz0 hz1 hz2 hz3 hf0 hf1 hf2 hf3
    have c0 : X.cell? ⟨w2.heap.size, 0, none⟩ = some (.int .i64 R) := (blk_cell T1 0).trans rfl
    have c1 : X.cell? ⟨w2.heap.size, 1, none⟩ = some (.int .i64 R) := (blk_cell T1 1).trans rfl
    have c2 : X.cell? ⟨w2.heap.size, 2, none⟩ = some (.int .i64 R) := (blk_cell T1 2).trans rfl
    have c3 : X.cell? ⟨w2.heap.size, 3, none⟩ = some (.int .i64 A) := (blk_cell T1 3).trans rfl
    go_wp2_with fail
    refine (Valid_any R R R A _).mono ?_
    rw [hw]
    rintro e w5 ⟨rfl, hb⟩
    replace T0 := blk_below T0 hb
    replace T1 := blk_below T1 hb
    replace TB := Aside0.mk (step TB.out hb)
    clear hb c0 c1 c2 c3
    have a0 : w5.cell? ⟨w.heap.size, 0, none⟩ = some (.int .i64 R) := (blk_cell T0 0).trans rfl
    have a1 : w5.cell? ⟨w.heap.size, 1, none⟩ = some (.int .i64 R) := (blk_cell T0 1).trans rfl
    have a2 : w5.cell? ⟨w.heap.size, 2, none⟩ = some (.int .i64 R) := (blk_cell T0 2).trans rfl
    have a3 : w5.cell? ⟨w.heap.size, 3, none⟩ = some (.int .i64 A) := (blk_cell T0 3).trans rfl
    have b0 : w5.cell? ⟨w2.heap.size, 0, none⟩ = some (.int .i64 R) := (blk_cell T1 0).trans rfl
    have b1 : w5.cell? ⟨w2.heap.size, 1, none⟩ = some (.int .i64 R) := (blk_cell T1 1).trans rfl
    have b2 : w5.cell? ⟨w2.heap.size, 2, none⟩ = some (.int .i64 R) := (blk_cell T1 2).trans rfl
    have b3 : w5.cell? ⟨w2.heap.size, 3, none⟩ = some (.int .i64 A) := (blk_cell T1 3).trans rfl
    clear T0 T1
    dsimp only
    go_wp2
    go_ret
    exact ⟨rfl, TB.out⟩
set_option maxRecDepth 100000 in
set_option maxHeartbeats 8000000 in
theorem near_a (R G B A v0 v1 v2 h s l : Int) (w : World) (hv : vldB R G B A = true) (h1 : decide (A < 1) = false) (hw : vldB v0 v1 v2 A = true) (q1 : (R == G) = false) (n0 : R - 8 ≤ v0) (m0 : v0 ≤ R + 8) (n1 : G - 8 ≤ v1) (m1 : v1 ≤ G + 8) (n2 : B - 8 ≤ v2) (m2 : v2 ≤ B + 8)
    (HT : Aside0 (∀ w, Calls Try.prog 40 #[.agg #[.int .i64 R, .int .i64 G, .int .i64 B, .int .i64 A]] w fun e w' => e = .returned (.agg #[.int .i64 h, .int .i64 s, .int .i64 l]) ∧ Below w.heap.size w w'))
    (HF : Aside0 (∀ w, Calls Try.prog 42 #[.agg #[.int .i64 h, .int .i64 s, .int .i64 l], .int .i64 A] w fun e w' => e = .returned (.agg #[.int .i64 v0, .int .i64 v1, .int .i64 v2, .int .i64 A]) ∧ Below w.heap.size w w')) :
    Calls Try.prog 17 #[.agg #[.int .i64 R, .int .i64 G, .int .i64 B, .int .i64 A]] w fun e w' => e = .returned (.bool true) ∧ Below w.heap.size w w' := by
  have hM := max6_le (R - v0) (v0 - R) (G - v1) (v1 - G) (B - v2) (v2 - B) 8 (by omega) (by omega) (by omega) (by omega) (by omega) (by omega)
  have e0 := wi (R - v0) (by omega) (by omega)
  have f0 := wi (v0 - R) (by omega) (by omega)
  have e1 := wi (G - v1) (by omega) (by omega)
  have f1 := wi (v1 - G) (by omega) (by omega)
  have e2 := wi (B - v2) (by omega) (by omega)
  have f2 := wi (v2 - B) (by omega) (by omega)
  go_enter Try.func17, Try.ntmps17
  go_wp2_with fail
  have X0 := blk_new w (.cells #[.int .i64 R, .int .i64 G, .int .i64 B, .int .i64 A] 45)
  have XB := below_alloc (Below.refl w.heap.size w) (.cells #[.int .i64 R, .int .i64 G, .int .i64 B, .int .i64 A] 45)
  refine (awake_any _).mono ?_
  rintro e w1 ⟨rfl, hb⟩
  have Y0 := blk_below X0 hb
  have YB := step XB hb
  clear X0 XB hb
  have p0 : w1.cell? ⟨w.heap.size, 0, none⟩ = some (.int .i64 R) := (blk_cell Y0 0).trans rfl
  have p1 : w1.cell? ⟨w.heap.size, 1, none⟩ = some (.int .i64 G) := (blk_cell Y0 1).trans rfl
  have p2 : w1.cell? ⟨w.heap.size, 2, none⟩ = some (.int .i64 B) := (blk_cell Y0 2).trans rfl
  have p3 : w1.cell? ⟨w.heap.size, 3, none⟩ = some (.int .i64 A) := (blk_cell Y0 3).trans rfl
  dsimp only
  go_wp2_with fail
  refine (Valid_any R G B A _).mono ?_
  rw [hv]
  rintro e w2 ⟨rfl, hb⟩
  have Z0 := blk_below Y0 hb
  have ZB := Aside0.mk (step YB hb)
  clear Y0 YB hb p0 p1 p2 p3
  have p0 : w2.cell? ⟨w.heap.size, 0, none⟩ = some (.int .i64 R) := (blk_cell Z0 0).trans rfl
  have p1 : w2.cell? ⟨w.heap.size, 1, none⟩ = some (.int .i64 G) := (blk_cell Z0 1).trans rfl
  have p2 : w2.cell? ⟨w.heap.size, 2, none⟩ = some (.int .i64 B) := (blk_cell Z0 2).trans rfl
  have p3 : w2.cell? ⟨w.heap.size, 3, none⟩ = some (.int .i64 A) := (blk_cell Z0 3).trans rfl
  dsimp only
  have z0 := fun o => kept (below_drew (below_alloc (Below.refl _ w2) o)) p0
  have z1 := fun o => kept (below_drew (below_alloc (Below.refl _ w2) o)) p1
  have z2 := fun o => kept (below_drew (below_alloc (Below.refl _ w2) o)) p2
  have z3 := fun o => kept (below_drew (below_alloc (Below.refl _ w2) o)) p3
  have ZL := blk_lt Z0
  go_wp2
  go_region_held3 (fun w' => w'.cell? ⟨w.heap.size, 0, none⟩ = some (.int .i64 R) ∧ w'.cell? ⟨w.heap.size, 1, none⟩ = some (.int .i64 G) ∧ w'.cell? ⟨w.heap.size, 2, none⟩ = some (.int .i64 B) ∧ w'.cell? ⟨w.heap.size, 3, none⟩ = some (.int .i64 A))
    (with_reducible (refine ⟨?_, ?_, ?_, ?_⟩ <;> first | assumption | (simp only [World.cell?_drew]; assumption) | exact z0 _ | exact z1 _ | exact z2 _ | exact z3 _ | exact x0 _ | exact x1 _ | exact x2 _ | exact x3 _ | exact y0 _ | exact y1 _ | exact y2 _ | exact y3 _ | (refine far4 (by first | omega | (dsimp only; omega)) ?_; assumption)))
    ((first | (go_at_call 40; refine (HT.out _).mono ?_; rintro e wA ⟨rfl, hb⟩; have UB : Aside0 (Below w.heap.size w wA) := ⟨step (by (with_reducible repeat (first | refine pw_below_drewN ?_ _ | refine below_drew1 ?_ | refine below_alloc ?_ _)); exact ZB.out) hb⟩; have U0 : Aside0 (wA.heap[w.heap.size]? = some (.cells #[.int .i64 R, .int .i64 G, .int .i64 B, .int .i64 A] 45 (0, 0))) := ⟨blk_below (by (with_reducible repeat (first | refine blk_drewN ?_ _ | refine blk_drew ?_ | refine blk_alloc ?_ _)); exact Z0) hb⟩; have s0 : wA.cell? ⟨w.heap.size, 0, none⟩ = some (.int .i64 R) := (blk_cell U0.out 0).trans rfl; have s1 : wA.cell? ⟨w.heap.size, 1, none⟩ = some (.int .i64 G) := (blk_cell U0.out 1).trans rfl; have s2 : wA.cell? ⟨w.heap.size, 2, none⟩ = some (.int .i64 B) := (blk_cell U0.out 2).trans rfl; have s3 : wA.cell? ⟨w.heap.size, 3, none⟩ = some (.int .i64 A) := (blk_cell U0.out 3).trans rfl; have x0 := fun o => kept (below_alloc (Below.refl _ wA) o) s0; have x1 := fun o => kept (below_alloc (Below.refl _ wA) o) s1; have x2 := fun o => kept (below_alloc (Below.refl _ wA) o) s2; have x3 := fun o => kept (below_alloc (Below.refl _ wA) o) s3; have UL := blk_lt U0.out; try (have T3 : wA.heap[w2.heap.size]? = some (.cells #[.int .i64 0, .int .i64 0, .int .i64 0, .int .i64 0] 45 (0, 0)) := blk_below (by (with_reducible repeat (first | refine blk_drewN ?_ _ | refine blk_drew ?_)); exact blk_new _ _) hb; have TL := blk_lt T3)) | (go_at_call 42; refine (HF.out _).mono ?_; rintro e wB ⟨rfl, hb⟩; have VB : Aside0 (Below w.heap.size w wB) := ⟨step (by (with_reducible repeat (first | refine pw_below_drewN ?_ _ | refine below_drew1 ?_ | refine below_alloc ?_ _)); exact UB.out) hb⟩; have V0 : Aside0 (wB.heap[w.heap.size]? = some (.cells #[.int .i64 R, .int .i64 G, .int .i64 B, .int .i64 A] 45 (0, 0))) := ⟨blk_below (by (with_reducible repeat (first | refine blk_drewN ?_ _ | refine blk_drew ?_ | refine blk_alloc ?_ _)); exact U0.out) hb⟩; have u0 : wB.cell? ⟨w.heap.size, 0, none⟩ = some (.int .i64 R) := (blk_cell V0.out 0).trans rfl; have u1 : wB.cell? ⟨w.heap.size, 1, none⟩ = some (.int .i64 G) := (blk_cell V0.out 1).trans rfl; have u2 : wB.cell? ⟨w.heap.size, 2, none⟩ = some (.int .i64 B) := (blk_cell V0.out 2).trans rfl; have u3 : wB.cell? ⟨w.heap.size, 3, none⟩ = some (.int .i64 A) := (blk_cell V0.out 3).trans rfl; have y0 := fun o => kept (below_alloc (Below.refl _ wB) o) u0; have y1 := fun o => kept (below_alloc (Below.refl _ wB) o) u1; have y2 := fun o => kept (below_alloc (Below.refl _ wB) o) u2; have y3 := fun o => kept (below_alloc (Below.refl _ wB) o) u3; have VL := blk_lt V0.out; first | (have T4 : wB.heap[w2.heap.size]? = some (.cells #[.int .i64 0, .int .i64 0, .int .i64 0, .int .i64 0] 45 (0, 0)) := blk_below (by (with_reducible repeat (first | refine blk_drewN ?_ _ | refine blk_drew ?_ | refine blk_alloc ?_ _)); exact T3) hb; have hz0 : wB.cell? ⟨w2.heap.size, 0, none⟩ = some (.int .i64 0) := (blk_cell T4 0).trans rfl; have hf0 := blk_frozen T4 0; have hz1 : wB.cell? ⟨w2.heap.size, 1, none⟩ = some (.int .i64 0) := (blk_cell T4 1).trans rfl; have hf1 := blk_frozen T4 1; have hz2 : wB.cell? ⟨w2.heap.size, 2, none⟩ = some (.int .i64 0) := (blk_cell T4 2).trans rfl; have hf2 := blk_frozen T4 2; have hz3 : wB.cell? ⟨w2.heap.size, 3, none⟩ = some (.int .i64 0) := (blk_cell T4 3).trans rfl; have hf3 := blk_frozen T4 3) | (have T4 : wB.heap[wA.heap.size]? = some (.cells #[.int .i64 0, .int .i64 0, .int .i64 0, .int .i64 0] 45 (0, 0)) := blk_below (by (with_reducible repeat (first | refine blk_drewN ?_ _ | refine blk_drew ?_)); exact blk_new _ _) hb; have hz0 : wB.cell? ⟨wA.heap.size, 0, none⟩ = some (.int .i64 0) := (blk_cell T4 0).trans rfl; have hf0 := blk_frozen T4 0; have hz1 : wB.cell? ⟨wA.heap.size, 1, none⟩ = some (.int .i64 0) := (blk_cell T4 1).trans rfl; have hf1 := blk_frozen T4 1; have hz2 : wB.cell? ⟨wA.heap.size, 2, none⟩ = some (.int .i64 0) := (blk_cell T4 2).trans rfl; have hf2 := blk_frozen T4 2; have hz3 : wB.cell? ⟨wA.heap.size, 3, none⟩ = some (.int .i64 0) := (blk_cell T4 3).trans rfl; have hf3 := blk_frozen T4 3) | skip)))
  · have T0 := blk_alloc V0.out (.cells #[.int .i64 v0, .int .i64 v1, .int .i64 v2, .int .i64 A] 45)
    have T1 := blk_new wB (.cells #[.int .i64 v0, .int .i64 v1, .int .i64 v2, .int .i64 A] 45)
    have TB := Aside0.mk (below_alloc VB.out (.cells #[.int .i64 v0, .int .i64 v1, .int .i64 v2, .int .i64 A] 45))
    clear V0 VB U0 UB Z0 ZB
    go_wp2_with fail
    refine (Valid_any v0 v1 v2 A _).mono ?_
    rw [hw]
    rintro e w5 ⟨rfl, hb⟩
    replace T0 := blk_below T0 hb
    replace T1 := blk_below T1 hb
    replace TB := Aside0.mk (step TB.out hb)
    clear hb
    have a0 : w5.cell? ⟨w.heap.size, 0, none⟩ = some (.int .i64 R) := (blk_cell T0 0).trans rfl
    have a1 : w5.cell? ⟨w.heap.size, 1, none⟩ = some (.int .i64 G) := (blk_cell T0 1).trans rfl
    have a2 : w5.cell? ⟨w.heap.size, 2, none⟩ = some (.int .i64 B) := (blk_cell T0 2).trans rfl
    have a3 : w5.cell? ⟨w.heap.size, 3, none⟩ = some (.int .i64 A) := (blk_cell T0 3).trans rfl
    have b0 : w5.cell? ⟨wB.heap.size, 0, none⟩ = some (.int .i64 v0) := (blk_cell T1 0).trans rfl
    have b1 : w5.cell? ⟨wB.heap.size, 1, none⟩ = some (.int .i64 v1) := (blk_cell T1 1).trans rfl
    have b2 : w5.cell? ⟨wB.heap.size, 2, none⟩ = some (.int .i64 v2) := (blk_cell T1 2).trans rfl
    have b3 : w5.cell? ⟨wB.heap.size, 3, none⟩ = some (.int .i64 A) := (blk_cell T1 3).trans rfl
    clear T0 T1
    dsimp only
    go_wp2
    go_ret
    exact ⟨rfl, TB.out⟩
  · generalize hX : ((((wB.setCell ⟨wA.heap.size, 0, none⟩ (.int .i64 v0)).setCell ⟨wA.heap.size, 1, none⟩ (.int .i64 v1)).setCell ⟨wA.heap.size, 2, none⟩ (.int .i64 v2)).setCell ⟨wA.heap.size, 3, none⟩ (.int .i64 A)) = X
    have T1 : X.heap[wA.heap.size]? = some (.cells #[.int .i64 v0, .int .i64 v1, .int .i64 v2, .int .i64 A] 45 (0, 0)) := by rw [← hX]; exact blk_put (blk_put (blk_put (blk_put T4 0 _ rfl) 1 _ rfl) 2 _ rfl) 3 _ rfl
    have T0 : X.heap[w.heap.size]? = some (.cells #[.int .i64 R, .int .i64 G, .int .i64 B, .int .i64 A] 45 (0, 0)) := by rw [← hX]; exact blk_far (blk_far (blk_far (blk_far V0.out (by show w.heap.size ≠ wA.heap.size; omega) _) (by show w.heap.size ≠ wA.heap.size; omega) _) (by show w.heap.size ≠ wA.heap.size; omega) _) (by show w.heap.size ≠ wA.heap.size; omega) _
    have TB : Aside0 (Below w.heap.size w X) := ⟨by rw [← hX]; repeat (first | exact VB.out | refine below_set ?_ (by omega))⟩
    clear hX V0 VB U0 UB Z0 ZB hz0 hz1 hz2 hz3 hf0 hf1 hf2 hf3
    have c0 : X.cell? ⟨wA.heap.size, 0, none⟩ = some (.int .i64 v0) := (blk_cell T1 0).trans rfl
    have c1 : X.cell? ⟨wA.heap.size, 1, none⟩ = some (.int .i64 v1) := (blk_cell T1 1).trans rfl
    have c2 : X.cell? ⟨wA.heap.size, 2, none⟩ = some (.int .i64 v2) := (blk_cell T1 2).trans rfl
    have c3 : X.cell? ⟨wA.heap.size, 3, none⟩ = some (.int .i64 A) := (blk_cell T1 3).trans rfl
    go_wp2_with fail
    refine (Valid_any v0 v1 v2 A _).mono ?_
    rw [hw]
    rintro e w5 ⟨rfl, hb⟩
    replace T0 := blk_below T0 hb
    replace T1 := blk_below T1 hb
    replace TB := Aside0.mk (step TB.out hb)
    clear hb c0 c1 c2 c3
    have a0 : w5.cell? ⟨w.heap.size, 0, none⟩ = some (.int .i64 R) := (blk_cell T0 0).trans rfl
    have a1 : w5.cell? ⟨w.heap.size, 1, none⟩ = some (.int .i64 G) := (blk_cell T0 1).trans rfl
    have a2 : w5.cell? ⟨w.heap.size, 2, none⟩ = some (.int .i64 B) := (blk_cell T0 2).trans rfl
    have a3 : w5.cell? ⟨w.heap.size, 3, none⟩ = some (.int .i64 A) := (blk_cell T0 3).trans rfl
    have b0 : w5.cell? ⟨wA.heap.size, 0, none⟩ = some (.int .i64 v0) := (blk_cell T1 0).trans rfl
    have b1 : w5.cell? ⟨wA.heap.size, 1, none⟩ = some (.int .i64 v1) := (blk_cell T1 1).trans rfl
    have b2 : w5.cell? ⟨wA.heap.size, 2, none⟩ = some (.int .i64 v2) := (blk_cell T1 2).trans rfl
    have b3 : w5.cell? ⟨wA.heap.size, 3, none⟩ = some (.int .i64 A) := (blk_cell T1 3).trans rfl
    clear T0 T1
    dsimp only
    go_wp2
    go_ret
    exact ⟨rfl, TB.out⟩
  · generalize hX : ((((wB.setCell ⟨w2.heap.size, 0, none⟩ (.int .i64 v0)).setCell ⟨w2.heap.size, 1, none⟩ (.int .i64 v1)).setCell ⟨w2.heap.size, 2, none⟩ (.int .i64 v2)).setCell ⟨w2.heap.size, 3, none⟩ (.int .i64 A)) = X
    have T1 : X.heap[w2.heap.size]? = some (.cells #[.int .i64 v0, .int .i64 v1, .int .i64 v2, .int .i64 A] 45 (0, 0)) := by rw [← hX]; exact blk_put (blk_put (blk_put (blk_put T4 0 _ rfl) 1 _ rfl) 2 _ rfl) 3 _ rfl
    have T0 : X.heap[w.heap.size]? = some (.cells #[.int .i64 R, .int .i64 G, .int .i64 B, .int .i64 A] 45 (0, 0)) := by rw [← hX]; exact blk_far (blk_far (blk_far (blk_far V0.out (by show w.heap.size ≠ w2.heap.size; omega) _) (by show w.heap.size ≠ w2.heap.size; omega) _) (by show w.heap.size ≠ w2.heap.size; omega) _) (by show w.heap.size ≠ w2.heap.size; omega) _
    have TB : Aside0 (Below w.heap.size w X) := ⟨by rw [← hX]; repeat (first | exact VB.out | refine below_set ?_ (by omega))⟩
    clear hX V0 VB U0 UB Z0 ZB hz0 hz1 hz2 hz3 hf0 hf1 hf2 hf3
    have c0 : X.cell? ⟨w2.heap.size, 0, none⟩ = some (.int .i64 v0) := (blk_cell T1 0).trans rfl
    have c1 : X.cell? ⟨w2.heap.size, 1, none⟩ = some (.int .i64 v1) := (blk_cell T1 1).trans rfl
    have c2 : X.cell? ⟨w2.heap.size, 2, none⟩ = some (.int .i64 v2) := (blk_cell T1 2).trans rfl
    have c3 : X.cell? ⟨w2.heap.size, 3, none⟩ = some (.int .i64 A) := (blk_cell T1 3).trans rfl
    go_wp2_with fail
    refine (Valid_any v0 v1 v2 A _).mono ?_
    rw [hw]
    rintro e w5 ⟨rfl, hb⟩
    replace T0 := blk_below T0 hb
    replace T1 := blk_below T1 hb
    replace TB := Aside0.mk (step TB.out hb)
    clear hb c0 c1 c2 c3
    have a0 : w5.cell? ⟨w.heap.size, 0, none⟩ = some (.int .i64 R) := (blk_cell T0 0).trans rfl
    have a1 : w5.cell? ⟨w.heap.size, 1, none⟩ = some (.int .i64 G) := (blk_cell T0 1).trans rfl
    have a2 : w5.cell? ⟨w.heap.size, 2, none⟩ = some (.int .i64 B) := (blk_cell T0 2).trans rfl
    have a3 : w5.cell? ⟨w.heap.size, 3, none⟩ = some (.int .i64 A) := (blk_cell T0 3).trans rfl
    have b0 : w5.cell? ⟨w2.heap.size, 0, none⟩ = some (.int .i64 v0) := (blk_cell T1 0).trans rfl
    have b1 : w5.cell? ⟨w2.heap.size, 1, none⟩ = some (.int .i64 v1) := (blk_cell T1 1).trans rfl
    have b2 : w5.cell? ⟨w2.heap.size, 2, none⟩ = some (.int .i64 v2) := (blk_cell T1 2).trans rfl
    have b3 : w5.cell? ⟨w2.heap.size, 3, none⟩ = some (.int .i64 A) := (blk_cell T1 3).trans rfl
    clear T0 T1
    dsimp only
    go_wp2
    go_ret
    exact ⟨rfl, TB.out⟩
set_option maxRecDepth 100000 in
set_option maxHeartbeats 8000000 in
theorem near_b (R G B A v0 v1 v2 h s l : Int) (w : World) (hv : vldB R G B A = true) (h1 : decide (A < 1) = false) (hw : vldB v0 v1 v2 A = true) (q1 : (R == G) = true) (q2 : (G == B) = false) (n0 : R - 8 ≤ v0) (m0 : v0 ≤ R + 8) (n1 : G - 8 ≤ v1) (m1 : v1 ≤ G + 8) (n2 : B - 8 ≤ v2) (m2 : v2 ≤ B + 8)
    (HT : Aside0 (∀ w, Calls Try.prog 40 #[.agg #[.int .i64 R, .int .i64 G, .int .i64 B, .int .i64 A]] w fun e w' => e = .returned (.agg #[.int .i64 h, .int .i64 s, .int .i64 l]) ∧ Below w.heap.size w w'))
    (HF : Aside0 (∀ w, Calls Try.prog 42 #[.agg #[.int .i64 h, .int .i64 s, .int .i64 l], .int .i64 A] w fun e w' => e = .returned (.agg #[.int .i64 v0, .int .i64 v1, .int .i64 v2, .int .i64 A]) ∧ Below w.heap.size w w')) :
    Calls Try.prog 17 #[.agg #[.int .i64 R, .int .i64 G, .int .i64 B, .int .i64 A]] w fun e w' => e = .returned (.bool true) ∧ Below w.heap.size w w' := by
  have hM := max6_le (R - v0) (v0 - R) (G - v1) (v1 - G) (B - v2) (v2 - B) 8 (by omega) (by omega) (by omega) (by omega) (by omega) (by omega)
  have e0 := wi (R - v0) (by omega) (by omega)
  have f0 := wi (v0 - R) (by omega) (by omega)
  have e1 := wi (G - v1) (by omega) (by omega)
  have f1 := wi (v1 - G) (by omega) (by omega)
  have e2 := wi (B - v2) (by omega) (by omega)
  have f2 := wi (v2 - B) (by omega) (by omega)
  go_enter Try.func17, Try.ntmps17
  go_wp2_with fail
  have X0 := blk_new w (.cells #[.int .i64 R, .int .i64 G, .int .i64 B, .int .i64 A] 45)
  have XB := below_alloc (Below.refl w.heap.size w) (.cells #[.int .i64 R, .int .i64 G, .int .i64 B, .int .i64 A] 45)
  refine (awake_any _).mono ?_
  rintro e w1 ⟨rfl, hb⟩
  have Y0 := blk_below X0 hb
  have YB := step XB hb
  clear X0 XB hb
  have p0 : w1.cell? ⟨w.heap.size, 0, none⟩ = some (.int .i64 R) := (blk_cell Y0 0).trans rfl
  have p1 : w1.cell? ⟨w.heap.size, 1, none⟩ = some (.int .i64 G) := (blk_cell Y0 1).trans rfl
  have p2 : w1.cell? ⟨w.heap.size, 2, none⟩ = some (.int .i64 B) := (blk_cell Y0 2).trans rfl
  have p3 : w1.cell? ⟨w.heap.size, 3, none⟩ = some (.int .i64 A) := (blk_cell Y0 3).trans rfl
  dsimp only
  go_wp2_with fail
  refine (Valid_any R G B A _).mono ?_
  rw [hv]
  rintro e w2 ⟨rfl, hb⟩
  have Z0 := blk_below Y0 hb
  have ZB := Aside0.mk (step YB hb)
  clear Y0 YB hb p0 p1 p2 p3
  have p0 : w2.cell? ⟨w.heap.size, 0, none⟩ = some (.int .i64 R) := (blk_cell Z0 0).trans rfl
  have p1 : w2.cell? ⟨w.heap.size, 1, none⟩ = some (.int .i64 G) := (blk_cell Z0 1).trans rfl
  have p2 : w2.cell? ⟨w.heap.size, 2, none⟩ = some (.int .i64 B) := (blk_cell Z0 2).trans rfl
  have p3 : w2.cell? ⟨w.heap.size, 3, none⟩ = some (.int .i64 A) := (blk_cell Z0 3).trans rfl
  dsimp only
  have z0 := fun o => kept (below_drew (below_alloc (Below.refl _ w2) o)) p0
  have z1 := fun o => kept (below_drew (below_alloc (Below.refl _ w2) o)) p1
  have z2 := fun o => kept (below_drew (below_alloc (Below.refl _ w2) o)) p2
  have z3 := fun o => kept (below_drew (below_alloc (Below.refl _ w2) o)) p3
  have ZL := blk_lt Z0
  go_wp2
  go_region_held3 (fun w' => w'.cell? ⟨w.heap.size, 0, none⟩ = some (.int .i64 R) ∧ w'.cell? ⟨w.heap.size, 1, none⟩ = some (.int .i64 G) ∧ w'.cell? ⟨w.heap.size, 2, none⟩ = some (.int .i64 B) ∧ w'.cell? ⟨w.heap.size, 3, none⟩ = some (.int .i64 A))
    (with_reducible (refine ⟨?_, ?_, ?_, ?_⟩ <;> first | assumption | (simp only [World.cell?_drew]; assumption) | exact z0 _ | exact z1 _ | exact z2 _ | exact z3 _ | exact x0 _ | exact x1 _ | exact x2 _ | exact x3 _ | exact y0 _ | exact y1 _ | exact y2 _ | exact y3 _ | (refine far4 (by first | omega | (dsimp only; omega)) ?_; assumption)))
    ((first | (go_at_call 40; refine (HT.out _).mono ?_; rintro e wA ⟨rfl, hb⟩; have UB : Aside0 (Below w.heap.size w wA) := ⟨step (by (with_reducible repeat (first | refine pw_below_drewN ?_ _ | refine below_drew1 ?_ | refine below_alloc ?_ _)); exact ZB.out) hb⟩; have U0 : Aside0 (wA.heap[w.heap.size]? = some (.cells #[.int .i64 R, .int .i64 G, .int .i64 B, .int .i64 A] 45 (0, 0))) := ⟨blk_below (by (with_reducible repeat (first | refine blk_drewN ?_ _ | refine blk_drew ?_ | refine blk_alloc ?_ _)); exact Z0) hb⟩; have s0 : wA.cell? ⟨w.heap.size, 0, none⟩ = some (.int .i64 R) := (blk_cell U0.out 0).trans rfl; have s1 : wA.cell? ⟨w.heap.size, 1, none⟩ = some (.int .i64 G) := (blk_cell U0.out 1).trans rfl; have s2 : wA.cell? ⟨w.heap.size, 2, none⟩ = some (.int .i64 B) := (blk_cell U0.out 2).trans rfl; have s3 : wA.cell? ⟨w.heap.size, 3, none⟩ = some (.int .i64 A) := (blk_cell U0.out 3).trans rfl; have x0 := fun o => kept (below_alloc (Below.refl _ wA) o) s0; have x1 := fun o => kept (below_alloc (Below.refl _ wA) o) s1; have x2 := fun o => kept (below_alloc (Below.refl _ wA) o) s2; have x3 := fun o => kept (below_alloc (Below.refl _ wA) o) s3; have UL := blk_lt U0.out; try (have T3 : wA.heap[w2.heap.size]? = some (.cells #[.int .i64 0, .int .i64 0, .int .i64 0, .int .i64 0] 45 (0, 0)) := blk_below (by (with_reducible repeat (first | refine blk_drewN ?_ _ | refine blk_drew ?_)); exact blk_new _ _) hb; have TL := blk_lt T3)) | (go_at_call 42; refine (HF.out _).mono ?_; rintro e wB ⟨rfl, hb⟩; have VB : Aside0 (Below w.heap.size w wB) := ⟨step (by (with_reducible repeat (first | refine pw_below_drewN ?_ _ | refine below_drew1 ?_ | refine below_alloc ?_ _)); exact UB.out) hb⟩; have V0 : Aside0 (wB.heap[w.heap.size]? = some (.cells #[.int .i64 R, .int .i64 G, .int .i64 B, .int .i64 A] 45 (0, 0))) := ⟨blk_below (by (with_reducible repeat (first | refine blk_drewN ?_ _ | refine blk_drew ?_ | refine blk_alloc ?_ _)); exact U0.out) hb⟩; have u0 : wB.cell? ⟨w.heap.size, 0, none⟩ = some (.int .i64 R) := (blk_cell V0.out 0).trans rfl; have u1 : wB.cell? ⟨w.heap.size, 1, none⟩ = some (.int .i64 G) := (blk_cell V0.out 1).trans rfl; have u2 : wB.cell? ⟨w.heap.size, 2, none⟩ = some (.int .i64 B) := (blk_cell V0.out 2).trans rfl; have u3 : wB.cell? ⟨w.heap.size, 3, none⟩ = some (.int .i64 A) := (blk_cell V0.out 3).trans rfl; have y0 := fun o => kept (below_alloc (Below.refl _ wB) o) u0; have y1 := fun o => kept (below_alloc (Below.refl _ wB) o) u1; have y2 := fun o => kept (below_alloc (Below.refl _ wB) o) u2; have y3 := fun o => kept (below_alloc (Below.refl _ wB) o) u3; have VL := blk_lt V0.out; first | (have T4 : wB.heap[w2.heap.size]? = some (.cells #[.int .i64 0, .int .i64 0, .int .i64 0, .int .i64 0] 45 (0, 0)) := blk_below (by (with_reducible repeat (first | refine blk_drewN ?_ _ | refine blk_drew ?_ | refine blk_alloc ?_ _)); exact T3) hb; have hz0 : wB.cell? ⟨w2.heap.size, 0, none⟩ = some (.int .i64 0) := (blk_cell T4 0).trans rfl; have hf0 := blk_frozen T4 0; have hz1 : wB.cell? ⟨w2.heap.size, 1, none⟩ = some (.int .i64 0) := (blk_cell T4 1).trans rfl; have hf1 := blk_frozen T4 1; have hz2 : wB.cell? ⟨w2.heap.size, 2, none⟩ = some (.int .i64 0) := (blk_cell T4 2).trans rfl; have hf2 := blk_frozen T4 2; have hz3 : wB.cell? ⟨w2.heap.size, 3, none⟩ = some (.int .i64 0) := (blk_cell T4 3).trans rfl; have hf3 := blk_frozen T4 3) | (have T4 : wB.heap[wA.heap.size]? = some (.cells #[.int .i64 0, .int .i64 0, .int .i64 0, .int .i64 0] 45 (0, 0)) := blk_below (by (with_reducible repeat (first | refine blk_drewN ?_ _ | refine blk_drew ?_)); exact blk_new _ _) hb; have hz0 : wB.cell? ⟨wA.heap.size, 0, none⟩ = some (.int .i64 0) := (blk_cell T4 0).trans rfl; have hf0 := blk_frozen T4 0; have hz1 : wB.cell? ⟨wA.heap.size, 1, none⟩ = some (.int .i64 0) := (blk_cell T4 1).trans rfl; have hf1 := blk_frozen T4 1; have hz2 : wB.cell? ⟨wA.heap.size, 2, none⟩ = some (.int .i64 0) := (blk_cell T4 2).trans rfl; have hf2 := blk_frozen T4 2; have hz3 : wB.cell? ⟨wA.heap.size, 3, none⟩ = some (.int .i64 0) := (blk_cell T4 3).trans rfl; have hf3 := blk_frozen T4 3) | skip)))
  · have T0 := blk_alloc V0.out (.cells #[.int .i64 v0, .int .i64 v1, .int .i64 v2, .int .i64 A] 45)
    have T1 := blk_new wB (.cells #[.int .i64 v0, .int .i64 v1, .int .i64 v2, .int .i64 A] 45)
    have TB := Aside0.mk (below_alloc VB.out (.cells #[.int .i64 v0, .int .i64 v1, .int .i64 v2, .int .i64 A] 45))
    clear V0 VB U0 UB Z0 ZB
    go_wp2_with fail
    refine (Valid_any v0 v1 v2 A _).mono ?_
    rw [hw]
    rintro e w5 ⟨rfl, hb⟩
    replace T0 := blk_below T0 hb
    replace T1 := blk_below T1 hb
    replace TB := Aside0.mk (step TB.out hb)
    clear hb
    have a0 : w5.cell? ⟨w.heap.size, 0, none⟩ = some (.int .i64 R) := (blk_cell T0 0).trans rfl
    have a1 : w5.cell? ⟨w.heap.size, 1, none⟩ = some (.int .i64 G) := (blk_cell T0 1).trans rfl
    have a2 : w5.cell? ⟨w.heap.size, 2, none⟩ = some (.int .i64 B) := (blk_cell T0 2).trans rfl
    have a3 : w5.cell? ⟨w.heap.size, 3, none⟩ = some (.int .i64 A) := (blk_cell T0 3).trans rfl
    have b0 : w5.cell? ⟨wB.heap.size, 0, none⟩ = some (.int .i64 v0) := (blk_cell T1 0).trans rfl
    have b1 : w5.cell? ⟨wB.heap.size, 1, none⟩ = some (.int .i64 v1) := (blk_cell T1 1).trans rfl
    have b2 : w5.cell? ⟨wB.heap.size, 2, none⟩ = some (.int .i64 v2) := (blk_cell T1 2).trans rfl
    have b3 : w5.cell? ⟨wB.heap.size, 3, none⟩ = some (.int .i64 A) := (blk_cell T1 3).trans rfl
    clear T0 T1
    dsimp only
    go_wp2
    go_ret
    exact ⟨rfl, TB.out⟩
  · generalize hX : ((((wB.setCell ⟨wA.heap.size, 0, none⟩ (.int .i64 v0)).setCell ⟨wA.heap.size, 1, none⟩ (.int .i64 v1)).setCell ⟨wA.heap.size, 2, none⟩ (.int .i64 v2)).setCell ⟨wA.heap.size, 3, none⟩ (.int .i64 A)) = X
    have T1 : X.heap[wA.heap.size]? = some (.cells #[.int .i64 v0, .int .i64 v1, .int .i64 v2, .int .i64 A] 45 (0, 0)) := by rw [← hX]; exact blk_put (blk_put (blk_put (blk_put T4 0 _ rfl) 1 _ rfl) 2 _ rfl) 3 _ rfl
    have T0 : X.heap[w.heap.size]? = some (.cells #[.int .i64 R, .int .i64 G, .int .i64 B, .int .i64 A] 45 (0, 0)) := by rw [← hX]; exact blk_far (blk_far (blk_far (blk_far V0.out (by show w.heap.size ≠ wA.heap.size; omega) _) (by show w.heap.size ≠ wA.heap.size; omega) _) (by show w.heap.size ≠ wA.heap.size; omega) _) (by show w.heap.size ≠ wA.heap.size; omega) _
    have TB : Aside0 (Below w.heap.size w X) := ⟨by rw [← hX]; repeat (first | exact VB.out | refine below_set ?_ (by omega))⟩
    clear hX V0 VB U0 UB Z0 ZB hz0 hz1 hz2 hz3 hf0 hf1 hf2 hf3
    have c0 : X.cell? ⟨wA.heap.size, 0, none⟩ = some (.int .i64 v0) := (blk_cell T1 0).trans rfl
    have c1 : X.cell? ⟨wA.heap.size, 1, none⟩ = some (.int .i64 v1) := (blk_cell T1 1).trans rfl
    have c2 : X.cell? ⟨wA.heap.size, 2, none⟩ = some (.int .i64 v2) := (blk_cell T1 2).trans rfl
    have c3 : X.cell? ⟨wA.heap.size, 3, none⟩ = some (.int .i64 A) := (blk_cell T1 3).trans rfl
    go_wp2_with fail
    refine (Valid_any v0 v1 v2 A _).mono ?_
    rw [hw]
    rintro e w5 ⟨rfl, hb⟩
    replace T0 := blk_below T0 hb
    replace T1 := blk_below T1 hb
    replace TB := Aside0.mk (step TB.out hb)
    clear hb c0 c1 c2 c3
    have a0 : w5.cell? ⟨w.heap.size, 0, none⟩ = some (.int .i64 R) := (blk_cell T0 0).trans rfl
    have a1 : w5.cell? ⟨w.heap.size, 1, none⟩ = some (.int .i64 G) := (blk_cell T0 1).trans rfl
    have a2 : w5.cell? ⟨w.heap.size, 2, none⟩ = some (.int .i64 B) := (blk_cell T0 2).trans rfl
    have a3 : w5.cell? ⟨w.heap.size, 3, none⟩ = some (.int .i64 A) := (blk_cell T0 3).trans rfl
    have b0 : w5.cell? ⟨wA.heap.size, 0, none⟩ = some (.int .i64 v0) := (blk_cell T1 0).trans rfl
    have b1 : w5.cell? ⟨wA.heap.size, 1, none⟩ = some (.int .i64 v1) := (blk_cell T1 1).trans rfl
    have b2 : w5.cell? ⟨wA.heap.size, 2, none⟩ = some (.int .i64 v2) := (blk_cell T1 2).trans rfl
    have b3 : w5.cell? ⟨wA.heap.size, 3, none⟩ = some (.int .i64 A) := (blk_cell T1 3).trans rfl
    clear T0 T1
    dsimp only
    go_wp2
    go_ret
    exact ⟨rfl, TB.out⟩
  · generalize hX : ((((wB.setCell ⟨w2.heap.size, 0, none⟩ (.int .i64 v0)).setCell ⟨w2.heap.size, 1, none⟩ (.int .i64 v1)).setCell ⟨w2.heap.size, 2, none⟩ (.int .i64 v2)).setCell ⟨w2.heap.size, 3, none⟩ (.int .i64 A)) = X
    have T1 : X.heap[w2.heap.size]? = some (.cells #[.int .i64 v0, .int .i64 v1, .int .i64 v2, .int .i64 A] 45 (0, 0)) := by rw [← hX]; exact blk_put (blk_put (blk_put (blk_put T4 0 _ rfl) 1 _ rfl) 2 _ rfl) 3 _ rfl
    have T0 : X.heap[w.heap.size]? = some (.cells #[.int .i64 R, .int .i64 G, .int .i64 B, .int .i64 A] 45 (0, 0)) := by rw [← hX]; exact blk_far (blk_far (blk_far (blk_far V0.out (by show w.heap.size ≠ w2.heap.size; omega) _) (by show w.heap.size ≠ w2.heap.size; omega) _) (by show w.heap.size ≠ w2.heap.size; omega) _) (by show w.heap.size ≠ w2.heap.size; omega) _
    have TB : Aside0 (Below w.heap.size w X) := ⟨by rw [← hX]; repeat (first | exact VB.out | refine below_set ?_ (by omega))⟩
    clear hX V0 VB U0 UB Z0 ZB hz0 hz1 hz2 hz3 hf0 hf1 hf2 hf3
    have c0 : X.cell? ⟨w2.heap.size, 0, none⟩ = some (.int .i64 v0) := (blk_cell T1 0).trans rfl
    have c1 : X.cell? ⟨w2.heap.size, 1, none⟩ = some (.int .i64 v1) := (blk_cell T1 1).trans rfl
    have c2 : X.cell? ⟨w2.heap.size, 2, none⟩ = some (.int .i64 v2) := (blk_cell T1 2).trans rfl
    have c3 : X.cell? ⟨w2.heap.size, 3, none⟩ = some (.int .i64 A) := (blk_cell T1 3).trans rfl
    go_wp2_with fail
    refine (Valid_any v0 v1 v2 A _).mono ?_
    rw [hw]
    rintro e w5 ⟨rfl, hb⟩
    replace T0 := blk_below T0 hb
    replace T1 := blk_below T1 hb
    replace TB := Aside0.mk (step TB.out hb)
    clear hb c0 c1 c2 c3
    have a0 : w5.cell? ⟨w.heap.size, 0, none⟩ = some (.int .i64 R) := (blk_cell T0 0).trans rfl
    have a1 : w5.cell? ⟨w.heap.size, 1, none⟩ = some (.int .i64 G) := (blk_cell T0 1).trans rfl
    have a2 : w5.cell? ⟨w.heap.size, 2, none⟩ = some (.int .i64 B) := (blk_cell T0 2).trans rfl
    have a3 : w5.cell? ⟨w.heap.size, 3, none⟩ = some (.int .i64 A) := (blk_cell T0 3).trans rfl
    have b0 : w5.cell? ⟨w2.heap.size, 0, none⟩ = some (.int .i64 v0) := (blk_cell T1 0).trans rfl
    have b1 : w5.cell? ⟨w2.heap.size, 1, none⟩ = some (.int .i64 v1) := (blk_cell T1 1).trans rfl
    have b2 : w5.cell? ⟨w2.heap.size, 2, none⟩ = some (.int .i64 v2) := (blk_cell T1 2).trans rfl
    have b3 : w5.cell? ⟨w2.heap.size, 3, none⟩ = some (.int .i64 A) := (blk_cell T1 3).trans rfl
    clear T0 T1
    dsimp only
    go_wp2
    go_ret
    exact ⟨rfl, TB.out⟩
theorem near_any (R G B A : Int) (w : World) :
    Calls Try.prog 17 #[.agg #[.int .i64 R, .int .i64 G, .int .i64 B, .int .i64 A]] w fun e w' => e = .returned (.bool true) ∧ Below w.heap.size w w' := by
  by_cases hv : vldB R G B A = true
  · by_cases ha : A < 1
    · exact near_clear R G B A w hv (decide_eq_true ha)
    · have V := (vldB_iff _ _ _ _).1 hv
      have lA := lim_id V.a0 V.a1
      have HT : Aside0 (∀ w, Calls Try.prog 40 #[.agg #[.int .i64 R, .int .i64 G, .int .i64 B, .int .i64 A]] w fun e w' => e = .returned (.agg #[.int .i64 (hueV R G B), .int .i64 (satV R G B), .int .i64 (ligV R G B)]) ∧ Below w.heap.size w w') := ⟨fun w => toHsl_any R G B A w V⟩
      have HF : Aside0 (∀ w, Calls Try.prog 42 #[.agg #[.int .i64 (hueV R G B), .int .i64 (satV R G B), .int .i64 (ligV R G B)], .int .i64 A] w fun e w' => e = .returned (.agg #[.int .i64 (fromR (hueV R G B) (satV R G B) (ligV R G B)), .int .i64 (fromG (hueV R G B) (satV R G B) (ligV R G B)), .int .i64 (fromB (hueV R G B) (satV R G B) (ligV R G B)), .int .i64 A]) ∧ Below w.heap.size w w') := ⟨fun w => by
        have h := fromHsl_any (hueV R G B) (satV R G B) (ligV R G B) A w
        unfold fromPix at h
        rw [lA, if_neg (by omega)] at h
        exact h⟩
      have hw : vldB (fromR (hueV R G B) (satV R G B) (ligV R G B)) (fromG (hueV R G B) (satV R G B) (ligV R G B)) (fromB (hueV R G B) (satV R G B) (ligV R G B)) A = true := (vldB_iff _ _ _ _).2 ⟨(lim_range _).1, (lim_range _).2, (lim_range _).1, (lim_range _).2, (lim_range _).1, (lim_range _).2, V.a0, V.a1⟩
      have h1 : decide (A < 1) = false := decide_eq_false ha
      by_cases hg : R = G ∧ G = B
      · obtain ⟨rfl, rfl⟩ := hg
        obtain ⟨g0, g1, g2⟩ := near_gray R V.r0 V.r1
        rw [g0, g1, g2] at HF
        exact near_gray_law R A _ _ _ w hv h1 hv HT HF
      · have hne : most R G B - least R G B ≠ 0 := fun h => hg (by
          obtain ⟨m1, m2, m3, _⟩ := most_spec R G B
          obtain ⟨n1, n2, n3, _⟩ := least_spec R G B
          omega)
        obtain ⟨⟨a0, a1⟩, ⟨b0, b1⟩, c0, c1⟩ := near_rgb R G B A V hne
        by_cases q1 : R = G
        · exact near_b R G B A _ _ _ _ _ _ w hv h1 hw (by simpa using q1) (by simpa using fun h => hg ⟨q1, h⟩) a0 a1 b0 b1 c0 c1 HT HF
        · exact near_a R G B A _ _ _ _ _ _ w hv h1 hw (by simpa using q1) a0 a1 b0 b1 c0 c1 HT HF
  · exact near_invalid R G B A w (by simpa using hv)
end Go.Proofs.Ytmgpmpiondciiaa.Adj
