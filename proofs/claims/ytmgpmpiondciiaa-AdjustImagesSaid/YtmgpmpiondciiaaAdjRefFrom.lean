/- The reference's FromHsl as a contract. No condition but the bounds of each theorem. -/
import Derived.Test.YtmgpmpiondciiaaAdjFrom
import Derived.Test.YtmgpmpiondciiaaAdjMix
import Derived.Test.YtmgpmpiondciiaaAdjRefNum
namespace Go.Proofs.Ytmgpmpiondciiaa.Adj
open Go.RowKit Go.Proofs.Ytmgpmpiondciiaa.PAdjustImages Go.Proofs.YtmgpmpiondciiaaW.PrintWords Go.Proofs.YtmgpmpiondciiaaW.PrintMore Go.Proofs.Ytmgpmpiondciiaa.Plain
set_option maxRecDepth 100000 in
set_option maxHeartbeats 8000000 in
theorem rFrom_zero (h0 h1 h2 al : Int) (w : World) (qA : al ≤ 0) :
    Calls Try.prog 43 #[.agg #[.int .i64 h0, .int .i64 h1, .int .i64 h2], .int .i64 al] w fun e w' => e = .returned (.agg #[.int .i64 0, .int .i64 0, .int .i64 0, .int .i64 0]) ∧ Below w.heap.size w w' := by
  have q : decide (al ≤ 0) = true := decide_eq_true qA
  have HB := Aside0.mk (Below.refl w.heap.size w)
  clear qA
  go_enter Try.func43, Try.ntmps43
  go_wp2_with fail
  refine bodyPost_ret (v := .agg #[.int .i64 0, .int .i64 0, .int .i64 0, .int .i64 0]) (by simp [results, Try.results43, go_sem]) rfl ⟨rfl, ?_⟩
  repeat (first | exact HB.out | refine below_alloc ?_ _ | refine below_set ?_ (by omega))
set_option maxRecDepth 100000 in
set_option maxHeartbeats 8000000 in
theorem rFrom_ep (h0 h1 h2 al y t s l c q f x n : Int) (w : World) (qA : ¬ al ≤ 0) (hy : h0.tmod 65536 = y) (hT : y = t) (qy : ¬ y < 0) (t0 : 0 ≤ t) (t1 : t < 65536) (hs : lim h1 = s) (hl : lim h2 = l) (hc : chromaV s l = c) (hq : (6 * t).tdiv 65536 = q) (hf : 6 * t - 65536 * q = f) (ho : q % 2 = 0) (hx : rdiv (c * f) 65536 = x) (hn : rdiv (2 * l - c) 2 = n) :
    Calls Try.prog 43 #[.agg #[.int .i64 h0, .int .i64 h1, .int .i64 h2], .int .i64 al] w fun e w' => e = .returned (.agg #[.int .i64 (lim ((pick q c x).1 + n)), .int .i64 (lim ((pick q c x).2.1 + n)), .int .i64 (lim ((pick q c x).2.2 + n)), .int .i64 (lim al)]) ∧ Below w.heap.size w w' := by
  subst hT
  obtain ⟨s0, s1⟩ := lim_range h1
  obtain ⟨l0, l1⟩ := lim_range h2
  rw [hs] at s0 s1
  rw [hl] at l0 l1
  obtain ⟨v0, v1, c0, c1, c2⟩ := chroma_range s l s0 s1 l0 l1
  rw [hc] at c0 c1 c2
  obtain ⟨w0, w1, w2, w3⟩ := wide_range l l0 l1
  unfold chromaV at hc
  obtain ⟨E, hE⟩ : ∃ z, mx (2 * l - 65535) (-(2 * l - 65535)) = z := ⟨_, rfl⟩
  have hW : wide (2 * l - 65535) = 65535 - E := by unfold wide; rw [hE]
  rw [hW] at hc v0 v1 w0 w1 w2 w3 c2
  have hq5 : 0 ≤ q ∧ q ≤ 5 ∧ 0 ≤ f ∧ f ≤ 65535 := by rw [Int.tdiv_eq_ediv_of_nonneg (by omega)] at hq; omega
  obtain ⟨q0, q5, f0, f1⟩ := hq5
  obtain ⟨p0, p1, x0, x1⟩ := part_range c f c0 c1 f0 (by omega)
  obtain ⟨p2, p3, x2, x3⟩ := part_range c (65536 - f) c0 c1 (by omega) (by omega)
  rw [hx] at x0 x1
  have n0 : 0 ≤ n ∧ n ≤ 65535 := by
    rw [← hn]
    exact rdiv_between _ 2 0 65535 (by omega) (by omega) (by omega)
  obtain ⟨n0, n1⟩ := n0
  have HS : Aside0 (∀ w, Calls Try.prog 66 #[.int .i64 h1] w fun e w' => e = .returned (.int .i64 s) ∧ Below w.heap.size w w') := ⟨fun w => by rw [← hs]; exact limR h1 w⟩
  have HLL : Aside0 (∀ w, Calls Try.prog 66 #[.int .i64 h2] w fun e w' => e = .returned (.int .i64 l) ∧ Below w.heap.size w w') := ⟨fun w => by rw [← hl]; exact limR h2 w⟩
  have HE : Aside0 (∀ w, Calls Try.prog 64 #[.int .i64 (2 * l - 65535)] w fun e w' => e = .returned (.int .i64 E) ∧ Below w.heap.size w w') := ⟨fun w => by rw [← hE]; exact absR _ w (by omega) (by omega)⟩
  have H1 : Aside0 (∀ w, Calls Try.prog 53 #[.int .i64 ((65535 - E) * s), .int .i64 65535] w fun e w' => e = .returned (.int .i64 c) ∧ Below w.heap.size w w') := ⟨fun w => by rw [← hc]; exact (rdivR _ 65535 w (by omega) (by omega) (by omega) (by omega)).below⟩
  have H2 : Aside0 (∀ w, Calls Try.prog 53 #[.int .i64 (c * f), .int .i64 65536] w fun e w' => e = .returned (.int .i64 x) ∧ Below w.heap.size w w') := ⟨fun w => by rw [← hx]; exact (rdivR _ 65536 w (by omega) (by omega) (by omega) (by omega)).below⟩
  have H3 : Aside0 (∀ w, Calls Try.prog 53 #[.int .i64 (2 * l - c), .int .i64 2] w fun e w' => e = .returned (.int .i64 n) ∧ Below w.heap.size w w') := ⟨fun w => by rw [← hn]; exact (rdivR _ 2 w (by omega) (by omega) (by omega) (by omega)).below⟩
  have qa : decide (al ≤ 0) = false := decide_eq_false qA
  have qp : (q.tmod 2 == 1) = false := by rw [Int.tmod_eq_emod_of_nonneg q0]; simp; omega
  have qn : decide (y < 0) = false := decide_eq_false qy
  have e1 := wi (6 * y) (by omega) (by omega)
  have e2 := wi (2 * l) (by omega) (by omega)
  have e3 := wi (2 * l - 65535) (by omega) (by omega)
  have e4 := wi (65535 - E) (by omega) (by omega)
  have e5 := wi ((65535 - E) * s) (by omega) (by omega)
  have e6 := wi (65536 * q) (by omega) (by omega)
  have e7 : IntKind.i64.wrap (6 * y - 65536 * q) = f := by rw [wi _ (by omega) (by omega)]; omega
  have e8 := wi (c * f) (by omega) (by omega)
  have e9 := wi (65536 - f) (by omega) (by omega)
  have ea := wi (c * (65536 - f)) (by omega) (by omega)
  have eb := wi (2 * l - c) (by omega) (by omega)
  have ec := wi (c + n) (by omega) (by omega)
  have ed := wi (x + n) (by omega) (by omega)
  have ee := wi (0 + n) (by omega) (by omega)
  have ez := wi n (by omega) (by omega)
  have hqq : q = 0 ∨ q = 2 ∨ q = 4 := by omega
  clear hs hl hc hx hn hW hE hf qA qy p0 p1 p2 p3 x0 x1 x2 x3 q0 q5 f0 f1 n0 n1 v0 v1 w0 w1 w2 w3 c0 c1 c2 s0 s1 l0 l1
  have X0 : ((w.alloc (.cells #[.int .i64 h0, .int .i64 h1, .int .i64 h2] 51)).alloc (.cells #[.int .i64 0, .int .i64 0, .int .i64 0, .int .i64 0] 45)).heap[w.heap.size]? = some (.cells #[.int .i64 h0, .int .i64 h1, .int .i64 h2] 51 (0, 0)) := blk_alloc (blk_new w _) _
  have K1 : ((w.alloc (.cells #[.int .i64 h0, .int .i64 h1, .int .i64 h2] 51)).alloc (.cells #[.int .i64 0, .int .i64 0, .int .i64 0, .int .i64 0] 45)).heap[w.heap.size + 1]? = some (.cells #[.int .i64 0, .int .i64 0, .int .i64 0, .int .i64 0] 45 (0, 0)) := by have := blk_new (w.alloc (.cells #[.int .i64 h0, .int .i64 h1, .int .i64 h2] 51)) (.cells #[.int .i64 0, .int .i64 0, .int .i64 0, .int .i64 0] 45); simpa using this
  have KB := Aside0.mk (below_alloc (below_alloc (Below.refl w.heap.size w) (.cells #[.int .i64 h0, .int .i64 h1, .int .i64 h2] 51)) (.cells #[.int .i64 0, .int .i64 0, .int .i64 0, .int .i64 0] 45))
  go_enter Try.func43, Try.ntmps43
  go_wp2_with fail
  refine (HS.out _).mono ?_
  rintro e w1 ⟨rfl, hb⟩
  replace K1 := blk_below K1 hb
  have X1 := blk_below X0 hb
  clear X0
  replace KB := Aside0.mk (step KB.out hb)
  clear hb
  have b2 : w1.cell? ⟨w.heap.size, 2, none⟩ = some (.int .i64 h2) := (blk_cell X1 2).trans rfl
  clear X1
  dsimp only
  go_wp2_with fail
  refine (HLL.out _).mono ?_
  rintro e w2 ⟨rfl, hb⟩
  replace K1 := blk_below K1 hb
  replace KB := Aside0.mk (step KB.out hb)
  clear hb
  dsimp only
  go_wp2_with fail
  refine (HE.out _).mono ?_
  rintro e w3 ⟨rfl, hb⟩
  replace K1 := blk_below K1 hb
  replace KB := Aside0.mk (step KB.out hb)
  clear hb
  dsimp only
  go_wp2_with fail
  refine (H1.out _).mono ?_
  rintro e w4 ⟨rfl, hb⟩
  replace K1 := blk_below K1 hb
  replace KB := Aside0.mk (step KB.out hb)
  clear hb
  dsimp only
  go_wp2_with fail
  refine (H2.out _).mono ?_
  rintro e w5 ⟨rfl, hb⟩
  replace K1 := blk_below K1 hb
  replace KB := Aside0.mk (step KB.out hb)
  clear hb
  dsimp only
  go_wp2_with fail
  refine (H3.out _).mono ?_
  rintro e w6 ⟨rfl, hb⟩
  replace K1 := blk_below K1 hb
  replace KB := Aside0.mk (step KB.out hb)
  clear hb
  clear HS HLL HE H1 H2 H3
  dsimp only
  have L1 := blk_lt K1
  obtain ⟨g, hg⟩ : ∃ g, w6.heap.size = g := ⟨_, rfl⟩
  rcases hqq with rfl | rfl | rfl
  · go_wp2
    have U3 := blk_new w6 (.cells #[.int .i64 c, .int .i64 x, .int .i64 0, .int .i64 0] 45)
    have U1 := blk_alloc K1 (.cells #[.int .i64 c, .int .i64 x, .int .i64 0, .int .i64 0] 45)
    have UB := Aside0.mk (below_alloc KB.out (.cells #[.int .i64 c, .int .i64 x, .int .i64 0, .int .i64 0] 45))
    generalize w6.alloc (.cells #[.int .i64 c, .int .i64 x, .int .i64 0, .int .i64 0] 45) = W at U3 U1 UB ⊢
    rw [hg] at U3 L1
    try rw [hg]
    clear K1 KB hg
    have c0_ : W.cell? ⟨g, 0, none⟩ = some (.int .i64 c) := (blk_cell U3 0).trans rfl
    have c1_ : W.cell? ⟨g, 1, none⟩ = some (.int .i64 x) := (blk_cell U3 1).trans rfl
    have c2_ : W.cell? ⟨g, 2, none⟩ = some (.int .i64 0) := (blk_cell U3 2).trans rfl
    go_region_held3 (fun w' => w'.cell? ⟨g, 0, none⟩ = some (.int .i64 c) ∧ w'.cell? ⟨g, 1, none⟩ = some (.int .i64 x) ∧ w'.cell? ⟨g, 2, none⟩ = some (.int .i64 0))
      (with_reducible (refine ⟨?_, ?_, ?_⟩ <;> first | assumption | (simp only [World.cell?_drew]; assumption) | (refine far4 (by first | omega | (dsimp only; omega)) ?_; assumption)))
      ((go_at_call 66; refine (limR _ _).mono ?_; rintro e w' ⟨rfl, hb⟩; have U3 : w'.heap[g]? = some (.cells #[.int .i64 c, .int .i64 x, .int .i64 0, .int .i64 0] 45 (0, 0)) := blk_below (by (with_reducible repeat (first | refine blk_drewN ?_ _ | refine blk_drew ?_)); exact U3) hb; have U1 : w'.heap[w.heap.size + 1]? = some (.cells #[.int .i64 0, .int .i64 0, .int .i64 0, .int .i64 0] 45 (0, 0)) := blk_below (by (with_reducible repeat (first | refine blk_drewN ?_ _ | refine blk_drew ?_)); exact U1) hb; have UB : Aside0 (Below w.heap.size w w') := ⟨step (by (with_reducible repeat (first | refine pw_below_drewN ?_ _ | refine below_drew1 ?_)); exact UB.out) hb⟩; have c0_ : w'.cell? ⟨g, 0, none⟩ = some (.int .i64 c) := (blk_cell U3 0).trans rfl; have c1_ : w'.cell? ⟨g, 1, none⟩ = some (.int .i64 x) := (blk_cell U3 1).trans rfl; have c2_ : w'.cell? ⟨g, 2, none⟩ = some (.int .i64 0) := (blk_cell U3 2).trans rfl; have z0 : w'.cell? ⟨w.heap.size + 1, 0, none⟩ = some (.int .i64 0) := (blk_cell U1 0).trans rfl; have f0_ := blk_frozen U1 0; have z1 : w'.cell? ⟨w.heap.size + 1, 1, none⟩ = some (.int .i64 0) := (blk_cell U1 1).trans rfl; have f1_ := blk_frozen U1 1; have z2 : w'.cell? ⟨w.heap.size + 1, 2, none⟩ = some (.int .i64 0) := (blk_cell U1 2).trans rfl; have f2_ := blk_frozen U1 2; have z3 : w'.cell? ⟨w.heap.size + 1, 3, none⟩ = some (.int .i64 0) := (blk_cell U1 3).trans rfl; have f3_ := blk_frozen U1 3))
    go_wp2
    refine bodyPost_ret (v := .agg #[.int .i64 (lim (c + n)), .int .i64 (lim (x + n)), .int .i64 (lim n), .int .i64 (lim al)]) (by simp [results, Try.results43, go_sem, z0, z1, z2, z3]) rfl ⟨by first | rfl | (simp [pick]; done), ?_⟩
    with_reducible repeat (first | exact UB.out | refine below_set ?_ (by omega) | refine pw_below_drewN ?_ _)
  · go_wp2
    have U3 := blk_new w6 (.cells #[.int .i64 0, .int .i64 c, .int .i64 x, .int .i64 0] 45)
    have U1 := blk_alloc K1 (.cells #[.int .i64 0, .int .i64 c, .int .i64 x, .int .i64 0] 45)
    have UB := Aside0.mk (below_alloc KB.out (.cells #[.int .i64 0, .int .i64 c, .int .i64 x, .int .i64 0] 45))
    generalize w6.alloc (.cells #[.int .i64 0, .int .i64 c, .int .i64 x, .int .i64 0] 45) = W at U3 U1 UB ⊢
    rw [hg] at U3 L1
    try rw [hg]
    clear K1 KB hg
    have c0_ : W.cell? ⟨g, 0, none⟩ = some (.int .i64 0) := (blk_cell U3 0).trans rfl
    have c1_ : W.cell? ⟨g, 1, none⟩ = some (.int .i64 c) := (blk_cell U3 1).trans rfl
    have c2_ : W.cell? ⟨g, 2, none⟩ = some (.int .i64 x) := (blk_cell U3 2).trans rfl
    go_region_held3 (fun w' => w'.cell? ⟨g, 0, none⟩ = some (.int .i64 0) ∧ w'.cell? ⟨g, 1, none⟩ = some (.int .i64 c) ∧ w'.cell? ⟨g, 2, none⟩ = some (.int .i64 x))
      (with_reducible (refine ⟨?_, ?_, ?_⟩ <;> first | assumption | (simp only [World.cell?_drew]; assumption) | (refine far4 (by first | omega | (dsimp only; omega)) ?_; assumption)))
      ((go_at_call 66; refine (limR _ _).mono ?_; rintro e w' ⟨rfl, hb⟩; have U3 : w'.heap[g]? = some (.cells #[.int .i64 0, .int .i64 c, .int .i64 x, .int .i64 0] 45 (0, 0)) := blk_below (by (with_reducible repeat (first | refine blk_drewN ?_ _ | refine blk_drew ?_)); exact U3) hb; have U1 : w'.heap[w.heap.size + 1]? = some (.cells #[.int .i64 0, .int .i64 0, .int .i64 0, .int .i64 0] 45 (0, 0)) := blk_below (by (with_reducible repeat (first | refine blk_drewN ?_ _ | refine blk_drew ?_)); exact U1) hb; have UB : Aside0 (Below w.heap.size w w') := ⟨step (by (with_reducible repeat (first | refine pw_below_drewN ?_ _ | refine below_drew1 ?_)); exact UB.out) hb⟩; have c0_ : w'.cell? ⟨g, 0, none⟩ = some (.int .i64 0) := (blk_cell U3 0).trans rfl; have c1_ : w'.cell? ⟨g, 1, none⟩ = some (.int .i64 c) := (blk_cell U3 1).trans rfl; have c2_ : w'.cell? ⟨g, 2, none⟩ = some (.int .i64 x) := (blk_cell U3 2).trans rfl; have z0 : w'.cell? ⟨w.heap.size + 1, 0, none⟩ = some (.int .i64 0) := (blk_cell U1 0).trans rfl; have f0_ := blk_frozen U1 0; have z1 : w'.cell? ⟨w.heap.size + 1, 1, none⟩ = some (.int .i64 0) := (blk_cell U1 1).trans rfl; have f1_ := blk_frozen U1 1; have z2 : w'.cell? ⟨w.heap.size + 1, 2, none⟩ = some (.int .i64 0) := (blk_cell U1 2).trans rfl; have f2_ := blk_frozen U1 2; have z3 : w'.cell? ⟨w.heap.size + 1, 3, none⟩ = some (.int .i64 0) := (blk_cell U1 3).trans rfl; have f3_ := blk_frozen U1 3))
    go_wp2
    refine bodyPost_ret (v := .agg #[.int .i64 (lim n), .int .i64 (lim (c + n)), .int .i64 (lim (x + n)), .int .i64 (lim al)]) (by simp [results, Try.results43, go_sem, z0, z1, z2, z3]) rfl ⟨by first | rfl | (simp [pick]; done), ?_⟩
    with_reducible repeat (first | exact UB.out | refine below_set ?_ (by omega) | refine pw_below_drewN ?_ _)
  · go_wp2
    have U3 := blk_new w6 (.cells #[.int .i64 x, .int .i64 0, .int .i64 c, .int .i64 0] 45)
    have U1 := blk_alloc K1 (.cells #[.int .i64 x, .int .i64 0, .int .i64 c, .int .i64 0] 45)
    have UB := Aside0.mk (below_alloc KB.out (.cells #[.int .i64 x, .int .i64 0, .int .i64 c, .int .i64 0] 45))
    generalize w6.alloc (.cells #[.int .i64 x, .int .i64 0, .int .i64 c, .int .i64 0] 45) = W at U3 U1 UB ⊢
    rw [hg] at U3 L1
    try rw [hg]
    clear K1 KB hg
    have c0_ : W.cell? ⟨g, 0, none⟩ = some (.int .i64 x) := (blk_cell U3 0).trans rfl
    have c1_ : W.cell? ⟨g, 1, none⟩ = some (.int .i64 0) := (blk_cell U3 1).trans rfl
    have c2_ : W.cell? ⟨g, 2, none⟩ = some (.int .i64 c) := (blk_cell U3 2).trans rfl
    go_region_held3 (fun w' => w'.cell? ⟨g, 0, none⟩ = some (.int .i64 x) ∧ w'.cell? ⟨g, 1, none⟩ = some (.int .i64 0) ∧ w'.cell? ⟨g, 2, none⟩ = some (.int .i64 c))
      (with_reducible (refine ⟨?_, ?_, ?_⟩ <;> first | assumption | (simp only [World.cell?_drew]; assumption) | (refine far4 (by first | omega | (dsimp only; omega)) ?_; assumption)))
      ((go_at_call 66; refine (limR _ _).mono ?_; rintro e w' ⟨rfl, hb⟩; have U3 : w'.heap[g]? = some (.cells #[.int .i64 x, .int .i64 0, .int .i64 c, .int .i64 0] 45 (0, 0)) := blk_below (by (with_reducible repeat (first | refine blk_drewN ?_ _ | refine blk_drew ?_)); exact U3) hb; have U1 : w'.heap[w.heap.size + 1]? = some (.cells #[.int .i64 0, .int .i64 0, .int .i64 0, .int .i64 0] 45 (0, 0)) := blk_below (by (with_reducible repeat (first | refine blk_drewN ?_ _ | refine blk_drew ?_)); exact U1) hb; have UB : Aside0 (Below w.heap.size w w') := ⟨step (by (with_reducible repeat (first | refine pw_below_drewN ?_ _ | refine below_drew1 ?_)); exact UB.out) hb⟩; have c0_ : w'.cell? ⟨g, 0, none⟩ = some (.int .i64 x) := (blk_cell U3 0).trans rfl; have c1_ : w'.cell? ⟨g, 1, none⟩ = some (.int .i64 0) := (blk_cell U3 1).trans rfl; have c2_ : w'.cell? ⟨g, 2, none⟩ = some (.int .i64 c) := (blk_cell U3 2).trans rfl; have z0 : w'.cell? ⟨w.heap.size + 1, 0, none⟩ = some (.int .i64 0) := (blk_cell U1 0).trans rfl; have f0_ := blk_frozen U1 0; have z1 : w'.cell? ⟨w.heap.size + 1, 1, none⟩ = some (.int .i64 0) := (blk_cell U1 1).trans rfl; have f1_ := blk_frozen U1 1; have z2 : w'.cell? ⟨w.heap.size + 1, 2, none⟩ = some (.int .i64 0) := (blk_cell U1 2).trans rfl; have f2_ := blk_frozen U1 2; have z3 : w'.cell? ⟨w.heap.size + 1, 3, none⟩ = some (.int .i64 0) := (blk_cell U1 3).trans rfl; have f3_ := blk_frozen U1 3))
    go_wp2
    refine bodyPost_ret (v := .agg #[.int .i64 (lim (x + n)), .int .i64 (lim n), .int .i64 (lim (c + n)), .int .i64 (lim al)]) (by simp [results, Try.results43, go_sem, z0, z1, z2, z3]) rfl ⟨by first | rfl | (simp [pick]; done), ?_⟩
    with_reducible repeat (first | exact UB.out | refine below_set ?_ (by omega) | refine pw_below_drewN ?_ _)
set_option maxRecDepth 100000 in
set_option maxHeartbeats 8000000 in
theorem rFrom_en (h0 h1 h2 al y t s l c q f x n : Int) (w : World) (qA : ¬ al ≤ 0) (hy : h0.tmod 65536 = y) (hT : y + 65536 = t) (qy : y < 0) (t0 : 0 ≤ t) (t1 : t < 65536) (hs : lim h1 = s) (hl : lim h2 = l) (hc : chromaV s l = c) (hq : (6 * t).tdiv 65536 = q) (hf : 6 * t - 65536 * q = f) (ho : q % 2 = 0) (hx : rdiv (c * f) 65536 = x) (hn : rdiv (2 * l - c) 2 = n) :
    Calls Try.prog 43 #[.agg #[.int .i64 h0, .int .i64 h1, .int .i64 h2], .int .i64 al] w fun e w' => e = .returned (.agg #[.int .i64 (lim ((pick q c x).1 + n)), .int .i64 (lim ((pick q c x).2.1 + n)), .int .i64 (lim ((pick q c x).2.2 + n)), .int .i64 (lim al)]) ∧ Below w.heap.size w w' := by
  obtain ⟨s0, s1⟩ := lim_range h1
  obtain ⟨l0, l1⟩ := lim_range h2
  rw [hs] at s0 s1
  rw [hl] at l0 l1
  obtain ⟨v0, v1, c0, c1, c2⟩ := chroma_range s l s0 s1 l0 l1
  rw [hc] at c0 c1 c2
  obtain ⟨w0, w1, w2, w3⟩ := wide_range l l0 l1
  unfold chromaV at hc
  obtain ⟨E, hE⟩ : ∃ z, mx (2 * l - 65535) (-(2 * l - 65535)) = z := ⟨_, rfl⟩
  have hW : wide (2 * l - 65535) = 65535 - E := by unfold wide; rw [hE]
  rw [hW] at hc v0 v1 w0 w1 w2 w3 c2
  have hq5 : 0 ≤ q ∧ q ≤ 5 ∧ 0 ≤ f ∧ f ≤ 65535 := by rw [Int.tdiv_eq_ediv_of_nonneg (by omega)] at hq; omega
  obtain ⟨q0, q5, f0, f1⟩ := hq5
  obtain ⟨p0, p1, x0, x1⟩ := part_range c f c0 c1 f0 (by omega)
  obtain ⟨p2, p3, x2, x3⟩ := part_range c (65536 - f) c0 c1 (by omega) (by omega)
  rw [hx] at x0 x1
  have n0 : 0 ≤ n ∧ n ≤ 65535 := by
    rw [← hn]
    exact rdiv_between _ 2 0 65535 (by omega) (by omega) (by omega)
  obtain ⟨n0, n1⟩ := n0
  have HS : Aside0 (∀ w, Calls Try.prog 66 #[.int .i64 h1] w fun e w' => e = .returned (.int .i64 s) ∧ Below w.heap.size w w') := ⟨fun w => by rw [← hs]; exact limR h1 w⟩
  have HLL : Aside0 (∀ w, Calls Try.prog 66 #[.int .i64 h2] w fun e w' => e = .returned (.int .i64 l) ∧ Below w.heap.size w w') := ⟨fun w => by rw [← hl]; exact limR h2 w⟩
  have HE : Aside0 (∀ w, Calls Try.prog 64 #[.int .i64 (2 * l - 65535)] w fun e w' => e = .returned (.int .i64 E) ∧ Below w.heap.size w w') := ⟨fun w => by rw [← hE]; exact absR _ w (by omega) (by omega)⟩
  have H1 : Aside0 (∀ w, Calls Try.prog 53 #[.int .i64 ((65535 - E) * s), .int .i64 65535] w fun e w' => e = .returned (.int .i64 c) ∧ Below w.heap.size w w') := ⟨fun w => by rw [← hc]; exact (rdivR _ 65535 w (by omega) (by omega) (by omega) (by omega)).below⟩
  have H2 : Aside0 (∀ w, Calls Try.prog 53 #[.int .i64 (c * f), .int .i64 65536] w fun e w' => e = .returned (.int .i64 x) ∧ Below w.heap.size w w') := ⟨fun w => by rw [← hx]; exact (rdivR _ 65536 w (by omega) (by omega) (by omega) (by omega)).below⟩
  have H3 : Aside0 (∀ w, Calls Try.prog 53 #[.int .i64 (2 * l - c), .int .i64 2] w fun e w' => e = .returned (.int .i64 n) ∧ Below w.heap.size w w') := ⟨fun w => by rw [← hn]; exact (rdivR _ 2 w (by omega) (by omega) (by omega) (by omega)).below⟩
  have qa : decide (al ≤ 0) = false := decide_eq_false qA
  have qp : (q.tmod 2 == 1) = false := by rw [Int.tmod_eq_emod_of_nonneg q0]; simp; omega
  have qn : decide (y < 0) = true := decide_eq_true qy
  have e1 := wi (6 * t) (by omega) (by omega)
  have e2 := wi (2 * l) (by omega) (by omega)
  have e3 := wi (2 * l - 65535) (by omega) (by omega)
  have e4 := wi (65535 - E) (by omega) (by omega)
  have e5 := wi ((65535 - E) * s) (by omega) (by omega)
  have e6 := wi (65536 * q) (by omega) (by omega)
  have e7 : IntKind.i64.wrap (6 * t - 65536 * q) = f := by rw [wi _ (by omega) (by omega)]; omega
  have e8 := wi (c * f) (by omega) (by omega)
  have e9 := wi (65536 - f) (by omega) (by omega)
  have ea := wi (c * (65536 - f)) (by omega) (by omega)
  have eb := wi (2 * l - c) (by omega) (by omega)
  have ec := wi (c + n) (by omega) (by omega)
  have ed := wi (x + n) (by omega) (by omega)
  have ee := wi (0 + n) (by omega) (by omega)
  have ez := wi n (by omega) (by omega)
  have ef : IntKind.i64.wrap (y + 65536) = t := by rw [wi _ (by omega) (by omega)]; exact hT
  have hqq : q = 0 ∨ q = 2 ∨ q = 4 := by omega
  clear hs hl hc hx hn hW hE hf qA qy p0 p1 p2 p3 x0 x1 x2 x3 q0 q5 f0 f1 n0 n1 v0 v1 w0 w1 w2 w3 c0 c1 c2 s0 s1 l0 l1
  have X0 : ((w.alloc (.cells #[.int .i64 h0, .int .i64 h1, .int .i64 h2] 51)).alloc (.cells #[.int .i64 0, .int .i64 0, .int .i64 0, .int .i64 0] 45)).heap[w.heap.size]? = some (.cells #[.int .i64 h0, .int .i64 h1, .int .i64 h2] 51 (0, 0)) := blk_alloc (blk_new w _) _
  have K1 : ((w.alloc (.cells #[.int .i64 h0, .int .i64 h1, .int .i64 h2] 51)).alloc (.cells #[.int .i64 0, .int .i64 0, .int .i64 0, .int .i64 0] 45)).heap[w.heap.size + 1]? = some (.cells #[.int .i64 0, .int .i64 0, .int .i64 0, .int .i64 0] 45 (0, 0)) := by have := blk_new (w.alloc (.cells #[.int .i64 h0, .int .i64 h1, .int .i64 h2] 51)) (.cells #[.int .i64 0, .int .i64 0, .int .i64 0, .int .i64 0] 45); simpa using this
  have KB := Aside0.mk (below_alloc (below_alloc (Below.refl w.heap.size w) (.cells #[.int .i64 h0, .int .i64 h1, .int .i64 h2] 51)) (.cells #[.int .i64 0, .int .i64 0, .int .i64 0, .int .i64 0] 45))
  go_enter Try.func43, Try.ntmps43
  go_wp2_with fail
  refine (HS.out _).mono ?_
  rintro e w1 ⟨rfl, hb⟩
  replace K1 := blk_below K1 hb
  have X1 := blk_below X0 hb
  clear X0
  replace KB := Aside0.mk (step KB.out hb)
  clear hb
  have b2 : w1.cell? ⟨w.heap.size, 2, none⟩ = some (.int .i64 h2) := (blk_cell X1 2).trans rfl
  clear X1
  dsimp only
  go_wp2_with fail
  refine (HLL.out _).mono ?_
  rintro e w2 ⟨rfl, hb⟩
  replace K1 := blk_below K1 hb
  replace KB := Aside0.mk (step KB.out hb)
  clear hb
  dsimp only
  go_wp2_with fail
  refine (HE.out _).mono ?_
  rintro e w3 ⟨rfl, hb⟩
  replace K1 := blk_below K1 hb
  replace KB := Aside0.mk (step KB.out hb)
  clear hb
  dsimp only
  go_wp2_with fail
  refine (H1.out _).mono ?_
  rintro e w4 ⟨rfl, hb⟩
  replace K1 := blk_below K1 hb
  replace KB := Aside0.mk (step KB.out hb)
  clear hb
  dsimp only
  go_wp2_with fail
  refine (H2.out _).mono ?_
  rintro e w5 ⟨rfl, hb⟩
  replace K1 := blk_below K1 hb
  replace KB := Aside0.mk (step KB.out hb)
  clear hb
  dsimp only
  go_wp2_with fail
  refine (H3.out _).mono ?_
  rintro e w6 ⟨rfl, hb⟩
  replace K1 := blk_below K1 hb
  replace KB := Aside0.mk (step KB.out hb)
  clear hb
  clear HS HLL HE H1 H2 H3
  dsimp only
  have L1 := blk_lt K1
  obtain ⟨g, hg⟩ : ∃ g, w6.heap.size = g := ⟨_, rfl⟩
  rcases hqq with rfl | rfl | rfl
  · go_wp2
    have U3 := blk_new w6 (.cells #[.int .i64 c, .int .i64 x, .int .i64 0, .int .i64 0] 45)
    have U1 := blk_alloc K1 (.cells #[.int .i64 c, .int .i64 x, .int .i64 0, .int .i64 0] 45)
    have UB := Aside0.mk (below_alloc KB.out (.cells #[.int .i64 c, .int .i64 x, .int .i64 0, .int .i64 0] 45))
    generalize w6.alloc (.cells #[.int .i64 c, .int .i64 x, .int .i64 0, .int .i64 0] 45) = W at U3 U1 UB ⊢
    rw [hg] at U3 L1
    try rw [hg]
    clear K1 KB hg
    have c0_ : W.cell? ⟨g, 0, none⟩ = some (.int .i64 c) := (blk_cell U3 0).trans rfl
    have c1_ : W.cell? ⟨g, 1, none⟩ = some (.int .i64 x) := (blk_cell U3 1).trans rfl
    have c2_ : W.cell? ⟨g, 2, none⟩ = some (.int .i64 0) := (blk_cell U3 2).trans rfl
    go_region_held3 (fun w' => w'.cell? ⟨g, 0, none⟩ = some (.int .i64 c) ∧ w'.cell? ⟨g, 1, none⟩ = some (.int .i64 x) ∧ w'.cell? ⟨g, 2, none⟩ = some (.int .i64 0))
      (with_reducible (refine ⟨?_, ?_, ?_⟩ <;> first | assumption | (simp only [World.cell?_drew]; assumption) | (refine far4 (by first | omega | (dsimp only; omega)) ?_; assumption)))
      ((go_at_call 66; refine (limR _ _).mono ?_; rintro e w' ⟨rfl, hb⟩; have U3 : w'.heap[g]? = some (.cells #[.int .i64 c, .int .i64 x, .int .i64 0, .int .i64 0] 45 (0, 0)) := blk_below (by (with_reducible repeat (first | refine blk_drewN ?_ _ | refine blk_drew ?_)); exact U3) hb; have U1 : w'.heap[w.heap.size + 1]? = some (.cells #[.int .i64 0, .int .i64 0, .int .i64 0, .int .i64 0] 45 (0, 0)) := blk_below (by (with_reducible repeat (first | refine blk_drewN ?_ _ | refine blk_drew ?_)); exact U1) hb; have UB : Aside0 (Below w.heap.size w w') := ⟨step (by (with_reducible repeat (first | refine pw_below_drewN ?_ _ | refine below_drew1 ?_)); exact UB.out) hb⟩; have c0_ : w'.cell? ⟨g, 0, none⟩ = some (.int .i64 c) := (blk_cell U3 0).trans rfl; have c1_ : w'.cell? ⟨g, 1, none⟩ = some (.int .i64 x) := (blk_cell U3 1).trans rfl; have c2_ : w'.cell? ⟨g, 2, none⟩ = some (.int .i64 0) := (blk_cell U3 2).trans rfl; have z0 : w'.cell? ⟨w.heap.size + 1, 0, none⟩ = some (.int .i64 0) := (blk_cell U1 0).trans rfl; have f0_ := blk_frozen U1 0; have z1 : w'.cell? ⟨w.heap.size + 1, 1, none⟩ = some (.int .i64 0) := (blk_cell U1 1).trans rfl; have f1_ := blk_frozen U1 1; have z2 : w'.cell? ⟨w.heap.size + 1, 2, none⟩ = some (.int .i64 0) := (blk_cell U1 2).trans rfl; have f2_ := blk_frozen U1 2; have z3 : w'.cell? ⟨w.heap.size + 1, 3, none⟩ = some (.int .i64 0) := (blk_cell U1 3).trans rfl; have f3_ := blk_frozen U1 3))
    go_wp2
    refine bodyPost_ret (v := .agg #[.int .i64 (lim (c + n)), .int .i64 (lim (x + n)), .int .i64 (lim n), .int .i64 (lim al)]) (by simp [results, Try.results43, go_sem, z0, z1, z2, z3]) rfl ⟨by first | rfl | (simp [pick]; done), ?_⟩
    with_reducible repeat (first | exact UB.out | refine below_set ?_ (by omega) | refine pw_below_drewN ?_ _)
  · go_wp2
    have U3 := blk_new w6 (.cells #[.int .i64 0, .int .i64 c, .int .i64 x, .int .i64 0] 45)
    have U1 := blk_alloc K1 (.cells #[.int .i64 0, .int .i64 c, .int .i64 x, .int .i64 0] 45)
    have UB := Aside0.mk (below_alloc KB.out (.cells #[.int .i64 0, .int .i64 c, .int .i64 x, .int .i64 0] 45))
    generalize w6.alloc (.cells #[.int .i64 0, .int .i64 c, .int .i64 x, .int .i64 0] 45) = W at U3 U1 UB ⊢
    rw [hg] at U3 L1
    try rw [hg]
    clear K1 KB hg
    have c0_ : W.cell? ⟨g, 0, none⟩ = some (.int .i64 0) := (blk_cell U3 0).trans rfl
    have c1_ : W.cell? ⟨g, 1, none⟩ = some (.int .i64 c) := (blk_cell U3 1).trans rfl
    have c2_ : W.cell? ⟨g, 2, none⟩ = some (.int .i64 x) := (blk_cell U3 2).trans rfl
    go_region_held3 (fun w' => w'.cell? ⟨g, 0, none⟩ = some (.int .i64 0) ∧ w'.cell? ⟨g, 1, none⟩ = some (.int .i64 c) ∧ w'.cell? ⟨g, 2, none⟩ = some (.int .i64 x))
      (with_reducible (refine ⟨?_, ?_, ?_⟩ <;> first | assumption | (simp only [World.cell?_drew]; assumption) | (refine far4 (by first | omega | (dsimp only; omega)) ?_; assumption)))
      ((go_at_call 66; refine (limR _ _).mono ?_; rintro e w' ⟨rfl, hb⟩; have U3 : w'.heap[g]? = some (.cells #[.int .i64 0, .int .i64 c, .int .i64 x, .int .i64 0] 45 (0, 0)) := blk_below (by (with_reducible repeat (first | refine blk_drewN ?_ _ | refine blk_drew ?_)); exact U3) hb; have U1 : w'.heap[w.heap.size + 1]? = some (.cells #[.int .i64 0, .int .i64 0, .int .i64 0, .int .i64 0] 45 (0, 0)) := blk_below (by (with_reducible repeat (first | refine blk_drewN ?_ _ | refine blk_drew ?_)); exact U1) hb; have UB : Aside0 (Below w.heap.size w w') := ⟨step (by (with_reducible repeat (first | refine pw_below_drewN ?_ _ | refine below_drew1 ?_)); exact UB.out) hb⟩; have c0_ : w'.cell? ⟨g, 0, none⟩ = some (.int .i64 0) := (blk_cell U3 0).trans rfl; have c1_ : w'.cell? ⟨g, 1, none⟩ = some (.int .i64 c) := (blk_cell U3 1).trans rfl; have c2_ : w'.cell? ⟨g, 2, none⟩ = some (.int .i64 x) := (blk_cell U3 2).trans rfl; have z0 : w'.cell? ⟨w.heap.size + 1, 0, none⟩ = some (.int .i64 0) := (blk_cell U1 0).trans rfl; have f0_ := blk_frozen U1 0; have z1 : w'.cell? ⟨w.heap.size + 1, 1, none⟩ = some (.int .i64 0) := (blk_cell U1 1).trans rfl; have f1_ := blk_frozen U1 1; have z2 : w'.cell? ⟨w.heap.size + 1, 2, none⟩ = some (.int .i64 0) := (blk_cell U1 2).trans rfl; have f2_ := blk_frozen U1 2; have z3 : w'.cell? ⟨w.heap.size + 1, 3, none⟩ = some (.int .i64 0) := (blk_cell U1 3).trans rfl; have f3_ := blk_frozen U1 3))
    go_wp2
    refine bodyPost_ret (v := .agg #[.int .i64 (lim n), .int .i64 (lim (c + n)), .int .i64 (lim (x + n)), .int .i64 (lim al)]) (by simp [results, Try.results43, go_sem, z0, z1, z2, z3]) rfl ⟨by first | rfl | (simp [pick]; done), ?_⟩
    with_reducible repeat (first | exact UB.out | refine below_set ?_ (by omega) | refine pw_below_drewN ?_ _)
  · go_wp2
    have U3 := blk_new w6 (.cells #[.int .i64 x, .int .i64 0, .int .i64 c, .int .i64 0] 45)
    have U1 := blk_alloc K1 (.cells #[.int .i64 x, .int .i64 0, .int .i64 c, .int .i64 0] 45)
    have UB := Aside0.mk (below_alloc KB.out (.cells #[.int .i64 x, .int .i64 0, .int .i64 c, .int .i64 0] 45))
    generalize w6.alloc (.cells #[.int .i64 x, .int .i64 0, .int .i64 c, .int .i64 0] 45) = W at U3 U1 UB ⊢
    rw [hg] at U3 L1
    try rw [hg]
    clear K1 KB hg
    have c0_ : W.cell? ⟨g, 0, none⟩ = some (.int .i64 x) := (blk_cell U3 0).trans rfl
    have c1_ : W.cell? ⟨g, 1, none⟩ = some (.int .i64 0) := (blk_cell U3 1).trans rfl
    have c2_ : W.cell? ⟨g, 2, none⟩ = some (.int .i64 c) := (blk_cell U3 2).trans rfl
    go_region_held3 (fun w' => w'.cell? ⟨g, 0, none⟩ = some (.int .i64 x) ∧ w'.cell? ⟨g, 1, none⟩ = some (.int .i64 0) ∧ w'.cell? ⟨g, 2, none⟩ = some (.int .i64 c))
      (with_reducible (refine ⟨?_, ?_, ?_⟩ <;> first | assumption | (simp only [World.cell?_drew]; assumption) | (refine far4 (by first | omega | (dsimp only; omega)) ?_; assumption)))
      ((go_at_call 66; refine (limR _ _).mono ?_; rintro e w' ⟨rfl, hb⟩; have U3 : w'.heap[g]? = some (.cells #[.int .i64 x, .int .i64 0, .int .i64 c, .int .i64 0] 45 (0, 0)) := blk_below (by (with_reducible repeat (first | refine blk_drewN ?_ _ | refine blk_drew ?_)); exact U3) hb; have U1 : w'.heap[w.heap.size + 1]? = some (.cells #[.int .i64 0, .int .i64 0, .int .i64 0, .int .i64 0] 45 (0, 0)) := blk_below (by (with_reducible repeat (first | refine blk_drewN ?_ _ | refine blk_drew ?_)); exact U1) hb; have UB : Aside0 (Below w.heap.size w w') := ⟨step (by (with_reducible repeat (first | refine pw_below_drewN ?_ _ | refine below_drew1 ?_)); exact UB.out) hb⟩; have c0_ : w'.cell? ⟨g, 0, none⟩ = some (.int .i64 x) := (blk_cell U3 0).trans rfl; have c1_ : w'.cell? ⟨g, 1, none⟩ = some (.int .i64 0) := (blk_cell U3 1).trans rfl; have c2_ : w'.cell? ⟨g, 2, none⟩ = some (.int .i64 c) := (blk_cell U3 2).trans rfl; have z0 : w'.cell? ⟨w.heap.size + 1, 0, none⟩ = some (.int .i64 0) := (blk_cell U1 0).trans rfl; have f0_ := blk_frozen U1 0; have z1 : w'.cell? ⟨w.heap.size + 1, 1, none⟩ = some (.int .i64 0) := (blk_cell U1 1).trans rfl; have f1_ := blk_frozen U1 1; have z2 : w'.cell? ⟨w.heap.size + 1, 2, none⟩ = some (.int .i64 0) := (blk_cell U1 2).trans rfl; have f2_ := blk_frozen U1 2; have z3 : w'.cell? ⟨w.heap.size + 1, 3, none⟩ = some (.int .i64 0) := (blk_cell U1 3).trans rfl; have f3_ := blk_frozen U1 3))
    go_wp2
    refine bodyPost_ret (v := .agg #[.int .i64 (lim (x + n)), .int .i64 (lim n), .int .i64 (lim (c + n)), .int .i64 (lim al)]) (by simp [results, Try.results43, go_sem, z0, z1, z2, z3]) rfl ⟨by first | rfl | (simp [pick]; done), ?_⟩
    with_reducible repeat (first | exact UB.out | refine below_set ?_ (by omega) | refine pw_below_drewN ?_ _)
set_option maxRecDepth 100000 in
set_option maxHeartbeats 8000000 in
theorem rFrom_op (h0 h1 h2 al y t s l c q f x n : Int) (w : World) (qA : ¬ al ≤ 0) (hy : h0.tmod 65536 = y) (hT : y = t) (qy : ¬ y < 0) (t0 : 0 ≤ t) (t1 : t < 65536) (hs : lim h1 = s) (hl : lim h2 = l) (hc : chromaV s l = c) (hq : (6 * t).tdiv 65536 = q) (hf : 6 * t - 65536 * q = f) (ho : q % 2 = 1) (hx : rdiv (c * (65536 - f)) 65536 = x) (hn : rdiv (2 * l - c) 2 = n) :
    Calls Try.prog 43 #[.agg #[.int .i64 h0, .int .i64 h1, .int .i64 h2], .int .i64 al] w fun e w' => e = .returned (.agg #[.int .i64 (lim ((pick q c x).1 + n)), .int .i64 (lim ((pick q c x).2.1 + n)), .int .i64 (lim ((pick q c x).2.2 + n)), .int .i64 (lim al)]) ∧ Below w.heap.size w w' := by
  subst hT
  obtain ⟨s0, s1⟩ := lim_range h1
  obtain ⟨l0, l1⟩ := lim_range h2
  rw [hs] at s0 s1
  rw [hl] at l0 l1
  obtain ⟨v0, v1, c0, c1, c2⟩ := chroma_range s l s0 s1 l0 l1
  rw [hc] at c0 c1 c2
  obtain ⟨w0, w1, w2, w3⟩ := wide_range l l0 l1
  unfold chromaV at hc
  obtain ⟨E, hE⟩ : ∃ z, mx (2 * l - 65535) (-(2 * l - 65535)) = z := ⟨_, rfl⟩
  have hW : wide (2 * l - 65535) = 65535 - E := by unfold wide; rw [hE]
  rw [hW] at hc v0 v1 w0 w1 w2 w3 c2
  have hq5 : 0 ≤ q ∧ q ≤ 5 ∧ 0 ≤ f ∧ f ≤ 65535 := by rw [Int.tdiv_eq_ediv_of_nonneg (by omega)] at hq; omega
  obtain ⟨q0, q5, f0, f1⟩ := hq5
  obtain ⟨p0, p1, x0, x1⟩ := part_range c f c0 c1 f0 (by omega)
  obtain ⟨p2, p3, x2, x3⟩ := part_range c (65536 - f) c0 c1 (by omega) (by omega)
  rw [hx] at x2 x3
  have n0 : 0 ≤ n ∧ n ≤ 65535 := by
    rw [← hn]
    exact rdiv_between _ 2 0 65535 (by omega) (by omega) (by omega)
  obtain ⟨n0, n1⟩ := n0
  have HS : Aside0 (∀ w, Calls Try.prog 66 #[.int .i64 h1] w fun e w' => e = .returned (.int .i64 s) ∧ Below w.heap.size w w') := ⟨fun w => by rw [← hs]; exact limR h1 w⟩
  have HLL : Aside0 (∀ w, Calls Try.prog 66 #[.int .i64 h2] w fun e w' => e = .returned (.int .i64 l) ∧ Below w.heap.size w w') := ⟨fun w => by rw [← hl]; exact limR h2 w⟩
  have HE : Aside0 (∀ w, Calls Try.prog 64 #[.int .i64 (2 * l - 65535)] w fun e w' => e = .returned (.int .i64 E) ∧ Below w.heap.size w w') := ⟨fun w => by rw [← hE]; exact absR _ w (by omega) (by omega)⟩
  have H1 : Aside0 (∀ w, Calls Try.prog 53 #[.int .i64 ((65535 - E) * s), .int .i64 65535] w fun e w' => e = .returned (.int .i64 c) ∧ Below w.heap.size w w') := ⟨fun w => by rw [← hc]; exact (rdivR _ 65535 w (by omega) (by omega) (by omega) (by omega)).below⟩
  have H2 : Aside0 (∀ w, Calls Try.prog 53 #[.int .i64 (c * f), .int .i64 65536] w fun e w' => e = .returned (.int .i64 (rdiv (c * f) 65536)) ∧ Below w.heap.size w w') := ⟨fun w => by exact (rdivR _ 65536 w (by omega) (by omega) (by omega) (by omega)).below⟩
  have H4 : Aside0 (∀ w, Calls Try.prog 53 #[.int .i64 (c * (65536 - f)), .int .i64 65536] w fun e w' => e = .returned (.int .i64 x) ∧ Below w.heap.size w w') := ⟨fun w => by rw [← hx]; exact (rdivR _ 65536 w (by omega) (by omega) (by omega) (by omega)).below⟩
  have H3 : Aside0 (∀ w, Calls Try.prog 53 #[.int .i64 (2 * l - c), .int .i64 2] w fun e w' => e = .returned (.int .i64 n) ∧ Below w.heap.size w w') := ⟨fun w => by rw [← hn]; exact (rdivR _ 2 w (by omega) (by omega) (by omega) (by omega)).below⟩
  have qa : decide (al ≤ 0) = false := decide_eq_false qA
  have qp : (q.tmod 2 == 1) = true := by rw [Int.tmod_eq_emod_of_nonneg q0]; simp; omega
  have qn : decide (y < 0) = false := decide_eq_false qy
  have e1 := wi (6 * y) (by omega) (by omega)
  have e2 := wi (2 * l) (by omega) (by omega)
  have e3 := wi (2 * l - 65535) (by omega) (by omega)
  have e4 := wi (65535 - E) (by omega) (by omega)
  have e5 := wi ((65535 - E) * s) (by omega) (by omega)
  have e6 := wi (65536 * q) (by omega) (by omega)
  have e7 : IntKind.i64.wrap (6 * y - 65536 * q) = f := by rw [wi _ (by omega) (by omega)]; omega
  have e8 := wi (c * f) (by omega) (by omega)
  have e9 := wi (65536 - f) (by omega) (by omega)
  have ea := wi (c * (65536 - f)) (by omega) (by omega)
  have eb := wi (2 * l - c) (by omega) (by omega)
  have ec := wi (c + n) (by omega) (by omega)
  have ed := wi (x + n) (by omega) (by omega)
  have ee := wi (0 + n) (by omega) (by omega)
  have ez := wi n (by omega) (by omega)
  have hqq : q = 1 ∨ q = 3 ∨ q = 5 := by omega
  clear hs hl hc hx hn hW hE hf qA qy p0 p1 p2 p3 x0 x1 x2 x3 q0 q5 f0 f1 n0 n1 v0 v1 w0 w1 w2 w3 c0 c1 c2 s0 s1 l0 l1
  have X0 : ((w.alloc (.cells #[.int .i64 h0, .int .i64 h1, .int .i64 h2] 51)).alloc (.cells #[.int .i64 0, .int .i64 0, .int .i64 0, .int .i64 0] 45)).heap[w.heap.size]? = some (.cells #[.int .i64 h0, .int .i64 h1, .int .i64 h2] 51 (0, 0)) := blk_alloc (blk_new w _) _
  have K1 : ((w.alloc (.cells #[.int .i64 h0, .int .i64 h1, .int .i64 h2] 51)).alloc (.cells #[.int .i64 0, .int .i64 0, .int .i64 0, .int .i64 0] 45)).heap[w.heap.size + 1]? = some (.cells #[.int .i64 0, .int .i64 0, .int .i64 0, .int .i64 0] 45 (0, 0)) := by have := blk_new (w.alloc (.cells #[.int .i64 h0, .int .i64 h1, .int .i64 h2] 51)) (.cells #[.int .i64 0, .int .i64 0, .int .i64 0, .int .i64 0] 45); simpa using this
  have KB := Aside0.mk (below_alloc (below_alloc (Below.refl w.heap.size w) (.cells #[.int .i64 h0, .int .i64 h1, .int .i64 h2] 51)) (.cells #[.int .i64 0, .int .i64 0, .int .i64 0, .int .i64 0] 45))
  go_enter Try.func43, Try.ntmps43
  go_wp2_with fail
  refine (HS.out _).mono ?_
  rintro e w1 ⟨rfl, hb⟩
  replace K1 := blk_below K1 hb
  have X1 := blk_below X0 hb
  clear X0
  replace KB := Aside0.mk (step KB.out hb)
  clear hb
  have b2 : w1.cell? ⟨w.heap.size, 2, none⟩ = some (.int .i64 h2) := (blk_cell X1 2).trans rfl
  clear X1
  dsimp only
  go_wp2_with fail
  refine (HLL.out _).mono ?_
  rintro e w2 ⟨rfl, hb⟩
  replace K1 := blk_below K1 hb
  replace KB := Aside0.mk (step KB.out hb)
  clear hb
  dsimp only
  go_wp2_with fail
  refine (HE.out _).mono ?_
  rintro e w3 ⟨rfl, hb⟩
  replace K1 := blk_below K1 hb
  replace KB := Aside0.mk (step KB.out hb)
  clear hb
  dsimp only
  go_wp2_with fail
  refine (H1.out _).mono ?_
  rintro e w4 ⟨rfl, hb⟩
  replace K1 := blk_below K1 hb
  replace KB := Aside0.mk (step KB.out hb)
  clear hb
  dsimp only
  go_wp2_with fail
  refine (H2.out _).mono ?_
  rintro e w5 ⟨rfl, hb⟩
  replace K1 := blk_below K1 hb
  replace KB := Aside0.mk (step KB.out hb)
  clear hb
  dsimp only
  go_wp2_with fail
  refine (H4.out _).mono ?_
  rintro e w5b ⟨rfl, hb⟩
  replace K1 := blk_below K1 hb
  replace KB := Aside0.mk (step KB.out hb)
  clear hb
  dsimp only
  go_wp2_with fail
  refine (H3.out _).mono ?_
  rintro e w6 ⟨rfl, hb⟩
  replace K1 := blk_below K1 hb
  replace KB := Aside0.mk (step KB.out hb)
  clear hb
  clear HS HLL HE H1 H2 H3 H4
  dsimp only
  have L1 := blk_lt K1
  obtain ⟨g, hg⟩ : ∃ g, w6.heap.size = g := ⟨_, rfl⟩
  rcases hqq with rfl | rfl | rfl
  · go_wp2
    have U3 := blk_new w6 (.cells #[.int .i64 x, .int .i64 c, .int .i64 0, .int .i64 0] 45)
    have U1 := blk_alloc K1 (.cells #[.int .i64 x, .int .i64 c, .int .i64 0, .int .i64 0] 45)
    have UB := Aside0.mk (below_alloc KB.out (.cells #[.int .i64 x, .int .i64 c, .int .i64 0, .int .i64 0] 45))
    generalize w6.alloc (.cells #[.int .i64 x, .int .i64 c, .int .i64 0, .int .i64 0] 45) = W at U3 U1 UB ⊢
    rw [hg] at U3 L1
    try rw [hg]
    clear K1 KB hg
    have c0_ : W.cell? ⟨g, 0, none⟩ = some (.int .i64 x) := (blk_cell U3 0).trans rfl
    have c1_ : W.cell? ⟨g, 1, none⟩ = some (.int .i64 c) := (blk_cell U3 1).trans rfl
    have c2_ : W.cell? ⟨g, 2, none⟩ = some (.int .i64 0) := (blk_cell U3 2).trans rfl
    go_region_held3 (fun w' => w'.cell? ⟨g, 0, none⟩ = some (.int .i64 x) ∧ w'.cell? ⟨g, 1, none⟩ = some (.int .i64 c) ∧ w'.cell? ⟨g, 2, none⟩ = some (.int .i64 0))
      (with_reducible (refine ⟨?_, ?_, ?_⟩ <;> first | assumption | (simp only [World.cell?_drew]; assumption) | (refine far4 (by first | omega | (dsimp only; omega)) ?_; assumption)))
      ((go_at_call 66; refine (limR _ _).mono ?_; rintro e w' ⟨rfl, hb⟩; have U3 : w'.heap[g]? = some (.cells #[.int .i64 x, .int .i64 c, .int .i64 0, .int .i64 0] 45 (0, 0)) := blk_below (by (with_reducible repeat (first | refine blk_drewN ?_ _ | refine blk_drew ?_)); exact U3) hb; have U1 : w'.heap[w.heap.size + 1]? = some (.cells #[.int .i64 0, .int .i64 0, .int .i64 0, .int .i64 0] 45 (0, 0)) := blk_below (by (with_reducible repeat (first | refine blk_drewN ?_ _ | refine blk_drew ?_)); exact U1) hb; have UB : Aside0 (Below w.heap.size w w') := ⟨step (by (with_reducible repeat (first | refine pw_below_drewN ?_ _ | refine below_drew1 ?_)); exact UB.out) hb⟩; have c0_ : w'.cell? ⟨g, 0, none⟩ = some (.int .i64 x) := (blk_cell U3 0).trans rfl; have c1_ : w'.cell? ⟨g, 1, none⟩ = some (.int .i64 c) := (blk_cell U3 1).trans rfl; have c2_ : w'.cell? ⟨g, 2, none⟩ = some (.int .i64 0) := (blk_cell U3 2).trans rfl; have z0 : w'.cell? ⟨w.heap.size + 1, 0, none⟩ = some (.int .i64 0) := (blk_cell U1 0).trans rfl; have f0_ := blk_frozen U1 0; have z1 : w'.cell? ⟨w.heap.size + 1, 1, none⟩ = some (.int .i64 0) := (blk_cell U1 1).trans rfl; have f1_ := blk_frozen U1 1; have z2 : w'.cell? ⟨w.heap.size + 1, 2, none⟩ = some (.int .i64 0) := (blk_cell U1 2).trans rfl; have f2_ := blk_frozen U1 2; have z3 : w'.cell? ⟨w.heap.size + 1, 3, none⟩ = some (.int .i64 0) := (blk_cell U1 3).trans rfl; have f3_ := blk_frozen U1 3))
    go_wp2
    refine bodyPost_ret (v := .agg #[.int .i64 (lim (x + n)), .int .i64 (lim (c + n)), .int .i64 (lim n), .int .i64 (lim al)]) (by simp [results, Try.results43, go_sem, z0, z1, z2, z3]) rfl ⟨by first | rfl | (simp [pick]; done), ?_⟩
    with_reducible repeat (first | exact UB.out | refine below_set ?_ (by omega) | refine pw_below_drewN ?_ _)
  · go_wp2
    have U3 := blk_new w6 (.cells #[.int .i64 0, .int .i64 x, .int .i64 c, .int .i64 0] 45)
    have U1 := blk_alloc K1 (.cells #[.int .i64 0, .int .i64 x, .int .i64 c, .int .i64 0] 45)
    have UB := Aside0.mk (below_alloc KB.out (.cells #[.int .i64 0, .int .i64 x, .int .i64 c, .int .i64 0] 45))
    generalize w6.alloc (.cells #[.int .i64 0, .int .i64 x, .int .i64 c, .int .i64 0] 45) = W at U3 U1 UB ⊢
    rw [hg] at U3 L1
    try rw [hg]
    clear K1 KB hg
    have c0_ : W.cell? ⟨g, 0, none⟩ = some (.int .i64 0) := (blk_cell U3 0).trans rfl
    have c1_ : W.cell? ⟨g, 1, none⟩ = some (.int .i64 x) := (blk_cell U3 1).trans rfl
    have c2_ : W.cell? ⟨g, 2, none⟩ = some (.int .i64 c) := (blk_cell U3 2).trans rfl
    go_region_held3 (fun w' => w'.cell? ⟨g, 0, none⟩ = some (.int .i64 0) ∧ w'.cell? ⟨g, 1, none⟩ = some (.int .i64 x) ∧ w'.cell? ⟨g, 2, none⟩ = some (.int .i64 c))
      (with_reducible (refine ⟨?_, ?_, ?_⟩ <;> first | assumption | (simp only [World.cell?_drew]; assumption) | (refine far4 (by first | omega | (dsimp only; omega)) ?_; assumption)))
      ((go_at_call 66; refine (limR _ _).mono ?_; rintro e w' ⟨rfl, hb⟩; have U3 : w'.heap[g]? = some (.cells #[.int .i64 0, .int .i64 x, .int .i64 c, .int .i64 0] 45 (0, 0)) := blk_below (by (with_reducible repeat (first | refine blk_drewN ?_ _ | refine blk_drew ?_)); exact U3) hb; have U1 : w'.heap[w.heap.size + 1]? = some (.cells #[.int .i64 0, .int .i64 0, .int .i64 0, .int .i64 0] 45 (0, 0)) := blk_below (by (with_reducible repeat (first | refine blk_drewN ?_ _ | refine blk_drew ?_)); exact U1) hb; have UB : Aside0 (Below w.heap.size w w') := ⟨step (by (with_reducible repeat (first | refine pw_below_drewN ?_ _ | refine below_drew1 ?_)); exact UB.out) hb⟩; have c0_ : w'.cell? ⟨g, 0, none⟩ = some (.int .i64 0) := (blk_cell U3 0).trans rfl; have c1_ : w'.cell? ⟨g, 1, none⟩ = some (.int .i64 x) := (blk_cell U3 1).trans rfl; have c2_ : w'.cell? ⟨g, 2, none⟩ = some (.int .i64 c) := (blk_cell U3 2).trans rfl; have z0 : w'.cell? ⟨w.heap.size + 1, 0, none⟩ = some (.int .i64 0) := (blk_cell U1 0).trans rfl; have f0_ := blk_frozen U1 0; have z1 : w'.cell? ⟨w.heap.size + 1, 1, none⟩ = some (.int .i64 0) := (blk_cell U1 1).trans rfl; have f1_ := blk_frozen U1 1; have z2 : w'.cell? ⟨w.heap.size + 1, 2, none⟩ = some (.int .i64 0) := (blk_cell U1 2).trans rfl; have f2_ := blk_frozen U1 2; have z3 : w'.cell? ⟨w.heap.size + 1, 3, none⟩ = some (.int .i64 0) := (blk_cell U1 3).trans rfl; have f3_ := blk_frozen U1 3))
    go_wp2
    refine bodyPost_ret (v := .agg #[.int .i64 (lim n), .int .i64 (lim (x + n)), .int .i64 (lim (c + n)), .int .i64 (lim al)]) (by simp [results, Try.results43, go_sem, z0, z1, z2, z3]) rfl ⟨by first | rfl | (simp [pick]; done), ?_⟩
    with_reducible repeat (first | exact UB.out | refine below_set ?_ (by omega) | refine pw_below_drewN ?_ _)
  · go_wp2
    have U3 := blk_new w6 (.cells #[.int .i64 c, .int .i64 0, .int .i64 x, .int .i64 0] 45)
    have U1 := blk_alloc K1 (.cells #[.int .i64 c, .int .i64 0, .int .i64 x, .int .i64 0] 45)
    have UB := Aside0.mk (below_alloc KB.out (.cells #[.int .i64 c, .int .i64 0, .int .i64 x, .int .i64 0] 45))
    generalize w6.alloc (.cells #[.int .i64 c, .int .i64 0, .int .i64 x, .int .i64 0] 45) = W at U3 U1 UB ⊢
    rw [hg] at U3 L1
    try rw [hg]
    clear K1 KB hg
    have c0_ : W.cell? ⟨g, 0, none⟩ = some (.int .i64 c) := (blk_cell U3 0).trans rfl
    have c1_ : W.cell? ⟨g, 1, none⟩ = some (.int .i64 0) := (blk_cell U3 1).trans rfl
    have c2_ : W.cell? ⟨g, 2, none⟩ = some (.int .i64 x) := (blk_cell U3 2).trans rfl
    go_region_held3 (fun w' => w'.cell? ⟨g, 0, none⟩ = some (.int .i64 c) ∧ w'.cell? ⟨g, 1, none⟩ = some (.int .i64 0) ∧ w'.cell? ⟨g, 2, none⟩ = some (.int .i64 x))
      (with_reducible (refine ⟨?_, ?_, ?_⟩ <;> first | assumption | (simp only [World.cell?_drew]; assumption) | (refine far4 (by first | omega | (dsimp only; omega)) ?_; assumption)))
      ((go_at_call 66; refine (limR _ _).mono ?_; rintro e w' ⟨rfl, hb⟩; have U3 : w'.heap[g]? = some (.cells #[.int .i64 c, .int .i64 0, .int .i64 x, .int .i64 0] 45 (0, 0)) := blk_below (by (with_reducible repeat (first | refine blk_drewN ?_ _ | refine blk_drew ?_)); exact U3) hb; have U1 : w'.heap[w.heap.size + 1]? = some (.cells #[.int .i64 0, .int .i64 0, .int .i64 0, .int .i64 0] 45 (0, 0)) := blk_below (by (with_reducible repeat (first | refine blk_drewN ?_ _ | refine blk_drew ?_)); exact U1) hb; have UB : Aside0 (Below w.heap.size w w') := ⟨step (by (with_reducible repeat (first | refine pw_below_drewN ?_ _ | refine below_drew1 ?_)); exact UB.out) hb⟩; have c0_ : w'.cell? ⟨g, 0, none⟩ = some (.int .i64 c) := (blk_cell U3 0).trans rfl; have c1_ : w'.cell? ⟨g, 1, none⟩ = some (.int .i64 0) := (blk_cell U3 1).trans rfl; have c2_ : w'.cell? ⟨g, 2, none⟩ = some (.int .i64 x) := (blk_cell U3 2).trans rfl; have z0 : w'.cell? ⟨w.heap.size + 1, 0, none⟩ = some (.int .i64 0) := (blk_cell U1 0).trans rfl; have f0_ := blk_frozen U1 0; have z1 : w'.cell? ⟨w.heap.size + 1, 1, none⟩ = some (.int .i64 0) := (blk_cell U1 1).trans rfl; have f1_ := blk_frozen U1 1; have z2 : w'.cell? ⟨w.heap.size + 1, 2, none⟩ = some (.int .i64 0) := (blk_cell U1 2).trans rfl; have f2_ := blk_frozen U1 2; have z3 : w'.cell? ⟨w.heap.size + 1, 3, none⟩ = some (.int .i64 0) := (blk_cell U1 3).trans rfl; have f3_ := blk_frozen U1 3))
    go_wp2
    refine bodyPost_ret (v := .agg #[.int .i64 (lim (c + n)), .int .i64 (lim n), .int .i64 (lim (x + n)), .int .i64 (lim al)]) (by simp [results, Try.results43, go_sem, z0, z1, z2, z3]) rfl ⟨by first | rfl | (simp [pick]; done), ?_⟩
    with_reducible repeat (first | exact UB.out | refine below_set ?_ (by omega) | refine pw_below_drewN ?_ _)
set_option maxRecDepth 100000 in
set_option maxHeartbeats 8000000 in
theorem rFrom_on (h0 h1 h2 al y t s l c q f x n : Int) (w : World) (qA : ¬ al ≤ 0) (hy : h0.tmod 65536 = y) (hT : y + 65536 = t) (qy : y < 0) (t0 : 0 ≤ t) (t1 : t < 65536) (hs : lim h1 = s) (hl : lim h2 = l) (hc : chromaV s l = c) (hq : (6 * t).tdiv 65536 = q) (hf : 6 * t - 65536 * q = f) (ho : q % 2 = 1) (hx : rdiv (c * (65536 - f)) 65536 = x) (hn : rdiv (2 * l - c) 2 = n) :
    Calls Try.prog 43 #[.agg #[.int .i64 h0, .int .i64 h1, .int .i64 h2], .int .i64 al] w fun e w' => e = .returned (.agg #[.int .i64 (lim ((pick q c x).1 + n)), .int .i64 (lim ((pick q c x).2.1 + n)), .int .i64 (lim ((pick q c x).2.2 + n)), .int .i64 (lim al)]) ∧ Below w.heap.size w w' := by
  obtain ⟨s0, s1⟩ := lim_range h1
  obtain ⟨l0, l1⟩ := lim_range h2
  rw [hs] at s0 s1
  rw [hl] at l0 l1
  obtain ⟨v0, v1, c0, c1, c2⟩ := chroma_range s l s0 s1 l0 l1
  rw [hc] at c0 c1 c2
  obtain ⟨w0, w1, w2, w3⟩ := wide_range l l0 l1
  unfold chromaV at hc
  obtain ⟨E, hE⟩ : ∃ z, mx (2 * l - 65535) (-(2 * l - 65535)) = z := ⟨_, rfl⟩
  have hW : wide (2 * l - 65535) = 65535 - E := by unfold wide; rw [hE]
  rw [hW] at hc v0 v1 w0 w1 w2 w3 c2
  have hq5 : 0 ≤ q ∧ q ≤ 5 ∧ 0 ≤ f ∧ f ≤ 65535 := by rw [Int.tdiv_eq_ediv_of_nonneg (by omega)] at hq; omega
  obtain ⟨q0, q5, f0, f1⟩ := hq5
  obtain ⟨p0, p1, x0, x1⟩ := part_range c f c0 c1 f0 (by omega)
  obtain ⟨p2, p3, x2, x3⟩ := part_range c (65536 - f) c0 c1 (by omega) (by omega)
  rw [hx] at x2 x3
  have n0 : 0 ≤ n ∧ n ≤ 65535 := by
    rw [← hn]
    exact rdiv_between _ 2 0 65535 (by omega) (by omega) (by omega)
  obtain ⟨n0, n1⟩ := n0
  have HS : Aside0 (∀ w, Calls Try.prog 66 #[.int .i64 h1] w fun e w' => e = .returned (.int .i64 s) ∧ Below w.heap.size w w') := ⟨fun w => by rw [← hs]; exact limR h1 w⟩
  have HLL : Aside0 (∀ w, Calls Try.prog 66 #[.int .i64 h2] w fun e w' => e = .returned (.int .i64 l) ∧ Below w.heap.size w w') := ⟨fun w => by rw [← hl]; exact limR h2 w⟩
  have HE : Aside0 (∀ w, Calls Try.prog 64 #[.int .i64 (2 * l - 65535)] w fun e w' => e = .returned (.int .i64 E) ∧ Below w.heap.size w w') := ⟨fun w => by rw [← hE]; exact absR _ w (by omega) (by omega)⟩
  have H1 : Aside0 (∀ w, Calls Try.prog 53 #[.int .i64 ((65535 - E) * s), .int .i64 65535] w fun e w' => e = .returned (.int .i64 c) ∧ Below w.heap.size w w') := ⟨fun w => by rw [← hc]; exact (rdivR _ 65535 w (by omega) (by omega) (by omega) (by omega)).below⟩
  have H2 : Aside0 (∀ w, Calls Try.prog 53 #[.int .i64 (c * f), .int .i64 65536] w fun e w' => e = .returned (.int .i64 (rdiv (c * f) 65536)) ∧ Below w.heap.size w w') := ⟨fun w => by exact (rdivR _ 65536 w (by omega) (by omega) (by omega) (by omega)).below⟩
  have H4 : Aside0 (∀ w, Calls Try.prog 53 #[.int .i64 (c * (65536 - f)), .int .i64 65536] w fun e w' => e = .returned (.int .i64 x) ∧ Below w.heap.size w w') := ⟨fun w => by rw [← hx]; exact (rdivR _ 65536 w (by omega) (by omega) (by omega) (by omega)).below⟩
  have H3 : Aside0 (∀ w, Calls Try.prog 53 #[.int .i64 (2 * l - c), .int .i64 2] w fun e w' => e = .returned (.int .i64 n) ∧ Below w.heap.size w w') := ⟨fun w => by rw [← hn]; exact (rdivR _ 2 w (by omega) (by omega) (by omega) (by omega)).below⟩
  have qa : decide (al ≤ 0) = false := decide_eq_false qA
  have qp : (q.tmod 2 == 1) = true := by rw [Int.tmod_eq_emod_of_nonneg q0]; simp; omega
  have qn : decide (y < 0) = true := decide_eq_true qy
  have e1 := wi (6 * t) (by omega) (by omega)
  have e2 := wi (2 * l) (by omega) (by omega)
  have e3 := wi (2 * l - 65535) (by omega) (by omega)
  have e4 := wi (65535 - E) (by omega) (by omega)
  have e5 := wi ((65535 - E) * s) (by omega) (by omega)
  have e6 := wi (65536 * q) (by omega) (by omega)
  have e7 : IntKind.i64.wrap (6 * t - 65536 * q) = f := by rw [wi _ (by omega) (by omega)]; omega
  have e8 := wi (c * f) (by omega) (by omega)
  have e9 := wi (65536 - f) (by omega) (by omega)
  have ea := wi (c * (65536 - f)) (by omega) (by omega)
  have eb := wi (2 * l - c) (by omega) (by omega)
  have ec := wi (c + n) (by omega) (by omega)
  have ed := wi (x + n) (by omega) (by omega)
  have ee := wi (0 + n) (by omega) (by omega)
  have ez := wi n (by omega) (by omega)
  have ef : IntKind.i64.wrap (y + 65536) = t := by rw [wi _ (by omega) (by omega)]; exact hT
  have hqq : q = 1 ∨ q = 3 ∨ q = 5 := by omega
  clear hs hl hc hx hn hW hE hf qA qy p0 p1 p2 p3 x0 x1 x2 x3 q0 q5 f0 f1 n0 n1 v0 v1 w0 w1 w2 w3 c0 c1 c2 s0 s1 l0 l1
  have X0 : ((w.alloc (.cells #[.int .i64 h0, .int .i64 h1, .int .i64 h2] 51)).alloc (.cells #[.int .i64 0, .int .i64 0, .int .i64 0, .int .i64 0] 45)).heap[w.heap.size]? = some (.cells #[.int .i64 h0, .int .i64 h1, .int .i64 h2] 51 (0, 0)) := blk_alloc (blk_new w _) _
  have K1 : ((w.alloc (.cells #[.int .i64 h0, .int .i64 h1, .int .i64 h2] 51)).alloc (.cells #[.int .i64 0, .int .i64 0, .int .i64 0, .int .i64 0] 45)).heap[w.heap.size + 1]? = some (.cells #[.int .i64 0, .int .i64 0, .int .i64 0, .int .i64 0] 45 (0, 0)) := by have := blk_new (w.alloc (.cells #[.int .i64 h0, .int .i64 h1, .int .i64 h2] 51)) (.cells #[.int .i64 0, .int .i64 0, .int .i64 0, .int .i64 0] 45); simpa using this
  have KB := Aside0.mk (below_alloc (below_alloc (Below.refl w.heap.size w) (.cells #[.int .i64 h0, .int .i64 h1, .int .i64 h2] 51)) (.cells #[.int .i64 0, .int .i64 0, .int .i64 0, .int .i64 0] 45))
  go_enter Try.func43, Try.ntmps43
  go_wp2_with fail
  refine (HS.out _).mono ?_
  rintro e w1 ⟨rfl, hb⟩
  replace K1 := blk_below K1 hb
  have X1 := blk_below X0 hb
  clear X0
  replace KB := Aside0.mk (step KB.out hb)
  clear hb
  have b2 : w1.cell? ⟨w.heap.size, 2, none⟩ = some (.int .i64 h2) := (blk_cell X1 2).trans rfl
  clear X1
  dsimp only
  go_wp2_with fail
  refine (HLL.out _).mono ?_
  rintro e w2 ⟨rfl, hb⟩
  replace K1 := blk_below K1 hb
  replace KB := Aside0.mk (step KB.out hb)
  clear hb
  dsimp only
  go_wp2_with fail
  refine (HE.out _).mono ?_
  rintro e w3 ⟨rfl, hb⟩
  replace K1 := blk_below K1 hb
  replace KB := Aside0.mk (step KB.out hb)
  clear hb
  dsimp only
  go_wp2_with fail
  refine (H1.out _).mono ?_
  rintro e w4 ⟨rfl, hb⟩
  replace K1 := blk_below K1 hb
  replace KB := Aside0.mk (step KB.out hb)
  clear hb
  dsimp only
  go_wp2_with fail
  refine (H2.out _).mono ?_
  rintro e w5 ⟨rfl, hb⟩
  replace K1 := blk_below K1 hb
  replace KB := Aside0.mk (step KB.out hb)
  clear hb
  dsimp only
  go_wp2_with fail
  refine (H4.out _).mono ?_
  rintro e w5b ⟨rfl, hb⟩
  replace K1 := blk_below K1 hb
  replace KB := Aside0.mk (step KB.out hb)
  clear hb
  dsimp only
  go_wp2_with fail
  refine (H3.out _).mono ?_
  rintro e w6 ⟨rfl, hb⟩
  replace K1 := blk_below K1 hb
  replace KB := Aside0.mk (step KB.out hb)
  clear hb
  clear HS HLL HE H1 H2 H3 H4
  dsimp only
  have L1 := blk_lt K1
  obtain ⟨g, hg⟩ : ∃ g, w6.heap.size = g := ⟨_, rfl⟩
  rcases hqq with rfl | rfl | rfl
  · go_wp2
    have U3 := blk_new w6 (.cells #[.int .i64 x, .int .i64 c, .int .i64 0, .int .i64 0] 45)
    have U1 := blk_alloc K1 (.cells #[.int .i64 x, .int .i64 c, .int .i64 0, .int .i64 0] 45)
    have UB := Aside0.mk (below_alloc KB.out (.cells #[.int .i64 x, .int .i64 c, .int .i64 0, .int .i64 0] 45))
    generalize w6.alloc (.cells #[.int .i64 x, .int .i64 c, .int .i64 0, .int .i64 0] 45) = W at U3 U1 UB ⊢
    rw [hg] at U3 L1
    try rw [hg]
    clear K1 KB hg
    have c0_ : W.cell? ⟨g, 0, none⟩ = some (.int .i64 x) := (blk_cell U3 0).trans rfl
    have c1_ : W.cell? ⟨g, 1, none⟩ = some (.int .i64 c) := (blk_cell U3 1).trans rfl
    have c2_ : W.cell? ⟨g, 2, none⟩ = some (.int .i64 0) := (blk_cell U3 2).trans rfl
    go_region_held3 (fun w' => w'.cell? ⟨g, 0, none⟩ = some (.int .i64 x) ∧ w'.cell? ⟨g, 1, none⟩ = some (.int .i64 c) ∧ w'.cell? ⟨g, 2, none⟩ = some (.int .i64 0))
      (with_reducible (refine ⟨?_, ?_, ?_⟩ <;> first | assumption | (simp only [World.cell?_drew]; assumption) | (refine far4 (by first | omega | (dsimp only; omega)) ?_; assumption)))
      ((go_at_call 66; refine (limR _ _).mono ?_; rintro e w' ⟨rfl, hb⟩; have U3 : w'.heap[g]? = some (.cells #[.int .i64 x, .int .i64 c, .int .i64 0, .int .i64 0] 45 (0, 0)) := blk_below (by (with_reducible repeat (first | refine blk_drewN ?_ _ | refine blk_drew ?_)); exact U3) hb; have U1 : w'.heap[w.heap.size + 1]? = some (.cells #[.int .i64 0, .int .i64 0, .int .i64 0, .int .i64 0] 45 (0, 0)) := blk_below (by (with_reducible repeat (first | refine blk_drewN ?_ _ | refine blk_drew ?_)); exact U1) hb; have UB : Aside0 (Below w.heap.size w w') := ⟨step (by (with_reducible repeat (first | refine pw_below_drewN ?_ _ | refine below_drew1 ?_)); exact UB.out) hb⟩; have c0_ : w'.cell? ⟨g, 0, none⟩ = some (.int .i64 x) := (blk_cell U3 0).trans rfl; have c1_ : w'.cell? ⟨g, 1, none⟩ = some (.int .i64 c) := (blk_cell U3 1).trans rfl; have c2_ : w'.cell? ⟨g, 2, none⟩ = some (.int .i64 0) := (blk_cell U3 2).trans rfl; have z0 : w'.cell? ⟨w.heap.size + 1, 0, none⟩ = some (.int .i64 0) := (blk_cell U1 0).trans rfl; have f0_ := blk_frozen U1 0; have z1 : w'.cell? ⟨w.heap.size + 1, 1, none⟩ = some (.int .i64 0) := (blk_cell U1 1).trans rfl; have f1_ := blk_frozen U1 1; have z2 : w'.cell? ⟨w.heap.size + 1, 2, none⟩ = some (.int .i64 0) := (blk_cell U1 2).trans rfl; have f2_ := blk_frozen U1 2; have z3 : w'.cell? ⟨w.heap.size + 1, 3, none⟩ = some (.int .i64 0) := (blk_cell U1 3).trans rfl; have f3_ := blk_frozen U1 3))
    go_wp2
    refine bodyPost_ret (v := .agg #[.int .i64 (lim (x + n)), .int .i64 (lim (c + n)), .int .i64 (lim n), .int .i64 (lim al)]) (by simp [results, Try.results43, go_sem, z0, z1, z2, z3]) rfl ⟨by first | rfl | (simp [pick]; done), ?_⟩
    with_reducible repeat (first | exact UB.out | refine below_set ?_ (by omega) | refine pw_below_drewN ?_ _)
  · go_wp2
    have U3 := blk_new w6 (.cells #[.int .i64 0, .int .i64 x, .int .i64 c, .int .i64 0] 45)
    have U1 := blk_alloc K1 (.cells #[.int .i64 0, .int .i64 x, .int .i64 c, .int .i64 0] 45)
    have UB := Aside0.mk (below_alloc KB.out (.cells #[.int .i64 0, .int .i64 x, .int .i64 c, .int .i64 0] 45))
    generalize w6.alloc (.cells #[.int .i64 0, .int .i64 x, .int .i64 c, .int .i64 0] 45) = W at U3 U1 UB ⊢
    rw [hg] at U3 L1
    try rw [hg]
    clear K1 KB hg
    have c0_ : W.cell? ⟨g, 0, none⟩ = some (.int .i64 0) := (blk_cell U3 0).trans rfl
    have c1_ : W.cell? ⟨g, 1, none⟩ = some (.int .i64 x) := (blk_cell U3 1).trans rfl
    have c2_ : W.cell? ⟨g, 2, none⟩ = some (.int .i64 c) := (blk_cell U3 2).trans rfl
    go_region_held3 (fun w' => w'.cell? ⟨g, 0, none⟩ = some (.int .i64 0) ∧ w'.cell? ⟨g, 1, none⟩ = some (.int .i64 x) ∧ w'.cell? ⟨g, 2, none⟩ = some (.int .i64 c))
      (with_reducible (refine ⟨?_, ?_, ?_⟩ <;> first | assumption | (simp only [World.cell?_drew]; assumption) | (refine far4 (by first | omega | (dsimp only; omega)) ?_; assumption)))
      ((go_at_call 66; refine (limR _ _).mono ?_; rintro e w' ⟨rfl, hb⟩; have U3 : w'.heap[g]? = some (.cells #[.int .i64 0, .int .i64 x, .int .i64 c, .int .i64 0] 45 (0, 0)) := blk_below (by (with_reducible repeat (first | refine blk_drewN ?_ _ | refine blk_drew ?_)); exact U3) hb; have U1 : w'.heap[w.heap.size + 1]? = some (.cells #[.int .i64 0, .int .i64 0, .int .i64 0, .int .i64 0] 45 (0, 0)) := blk_below (by (with_reducible repeat (first | refine blk_drewN ?_ _ | refine blk_drew ?_)); exact U1) hb; have UB : Aside0 (Below w.heap.size w w') := ⟨step (by (with_reducible repeat (first | refine pw_below_drewN ?_ _ | refine below_drew1 ?_)); exact UB.out) hb⟩; have c0_ : w'.cell? ⟨g, 0, none⟩ = some (.int .i64 0) := (blk_cell U3 0).trans rfl; have c1_ : w'.cell? ⟨g, 1, none⟩ = some (.int .i64 x) := (blk_cell U3 1).trans rfl; have c2_ : w'.cell? ⟨g, 2, none⟩ = some (.int .i64 c) := (blk_cell U3 2).trans rfl; have z0 : w'.cell? ⟨w.heap.size + 1, 0, none⟩ = some (.int .i64 0) := (blk_cell U1 0).trans rfl; have f0_ := blk_frozen U1 0; have z1 : w'.cell? ⟨w.heap.size + 1, 1, none⟩ = some (.int .i64 0) := (blk_cell U1 1).trans rfl; have f1_ := blk_frozen U1 1; have z2 : w'.cell? ⟨w.heap.size + 1, 2, none⟩ = some (.int .i64 0) := (blk_cell U1 2).trans rfl; have f2_ := blk_frozen U1 2; have z3 : w'.cell? ⟨w.heap.size + 1, 3, none⟩ = some (.int .i64 0) := (blk_cell U1 3).trans rfl; have f3_ := blk_frozen U1 3))
    go_wp2
    refine bodyPost_ret (v := .agg #[.int .i64 (lim n), .int .i64 (lim (x + n)), .int .i64 (lim (c + n)), .int .i64 (lim al)]) (by simp [results, Try.results43, go_sem, z0, z1, z2, z3]) rfl ⟨by first | rfl | (simp [pick]; done), ?_⟩
    with_reducible repeat (first | exact UB.out | refine below_set ?_ (by omega) | refine pw_below_drewN ?_ _)
  · go_wp2
    have U3 := blk_new w6 (.cells #[.int .i64 c, .int .i64 0, .int .i64 x, .int .i64 0] 45)
    have U1 := blk_alloc K1 (.cells #[.int .i64 c, .int .i64 0, .int .i64 x, .int .i64 0] 45)
    have UB := Aside0.mk (below_alloc KB.out (.cells #[.int .i64 c, .int .i64 0, .int .i64 x, .int .i64 0] 45))
    generalize w6.alloc (.cells #[.int .i64 c, .int .i64 0, .int .i64 x, .int .i64 0] 45) = W at U3 U1 UB ⊢
    rw [hg] at U3 L1
    try rw [hg]
    clear K1 KB hg
    have c0_ : W.cell? ⟨g, 0, none⟩ = some (.int .i64 c) := (blk_cell U3 0).trans rfl
    have c1_ : W.cell? ⟨g, 1, none⟩ = some (.int .i64 0) := (blk_cell U3 1).trans rfl
    have c2_ : W.cell? ⟨g, 2, none⟩ = some (.int .i64 x) := (blk_cell U3 2).trans rfl
    go_region_held3 (fun w' => w'.cell? ⟨g, 0, none⟩ = some (.int .i64 c) ∧ w'.cell? ⟨g, 1, none⟩ = some (.int .i64 0) ∧ w'.cell? ⟨g, 2, none⟩ = some (.int .i64 x))
      (with_reducible (refine ⟨?_, ?_, ?_⟩ <;> first | assumption | (simp only [World.cell?_drew]; assumption) | (refine far4 (by first | omega | (dsimp only; omega)) ?_; assumption)))
      ((go_at_call 66; refine (limR _ _).mono ?_; rintro e w' ⟨rfl, hb⟩; have U3 : w'.heap[g]? = some (.cells #[.int .i64 c, .int .i64 0, .int .i64 x, .int .i64 0] 45 (0, 0)) := blk_below (by (with_reducible repeat (first | refine blk_drewN ?_ _ | refine blk_drew ?_)); exact U3) hb; have U1 : w'.heap[w.heap.size + 1]? = some (.cells #[.int .i64 0, .int .i64 0, .int .i64 0, .int .i64 0] 45 (0, 0)) := blk_below (by (with_reducible repeat (first | refine blk_drewN ?_ _ | refine blk_drew ?_)); exact U1) hb; have UB : Aside0 (Below w.heap.size w w') := ⟨step (by (with_reducible repeat (first | refine pw_below_drewN ?_ _ | refine below_drew1 ?_)); exact UB.out) hb⟩; have c0_ : w'.cell? ⟨g, 0, none⟩ = some (.int .i64 c) := (blk_cell U3 0).trans rfl; have c1_ : w'.cell? ⟨g, 1, none⟩ = some (.int .i64 0) := (blk_cell U3 1).trans rfl; have c2_ : w'.cell? ⟨g, 2, none⟩ = some (.int .i64 x) := (blk_cell U3 2).trans rfl; have z0 : w'.cell? ⟨w.heap.size + 1, 0, none⟩ = some (.int .i64 0) := (blk_cell U1 0).trans rfl; have f0_ := blk_frozen U1 0; have z1 : w'.cell? ⟨w.heap.size + 1, 1, none⟩ = some (.int .i64 0) := (blk_cell U1 1).trans rfl; have f1_ := blk_frozen U1 1; have z2 : w'.cell? ⟨w.heap.size + 1, 2, none⟩ = some (.int .i64 0) := (blk_cell U1 2).trans rfl; have f2_ := blk_frozen U1 2; have z3 : w'.cell? ⟨w.heap.size + 1, 3, none⟩ = some (.int .i64 0) := (blk_cell U1 3).trans rfl; have f3_ := blk_frozen U1 3))
    go_wp2
    refine bodyPost_ret (v := .agg #[.int .i64 (lim (c + n)), .int .i64 (lim n), .int .i64 (lim (x + n)), .int .i64 (lim al)]) (by simp [results, Try.results43, go_sem, z0, z1, z2, z3]) rfl ⟨by first | rfl | (simp [pick]; done), ?_⟩
    with_reducible repeat (first | exact UB.out | refine below_set ?_ (by omega) | refine pw_below_drewN ?_ _)
theorem rFrom_any (h0 h1 h2 al : Int) (w : World) :
    Calls Try.prog 43 #[.agg #[.int .i64 h0, .int .i64 h1, .int .i64 h2], .int .i64 al] w fun e w' => e = .returned (fromPix h0 h1 h2 al) ∧ Below w.heap.size w w' := by
  unfold fromPix
  have ha : lim al = 0 ↔ al ≤ 0 := by unfold lim; repeat' split <;> omega
  by_cases hA : al ≤ 0
  · rw [if_pos (ha.2 hA)]
    exact rFrom_zero h0 h1 h2 al w hA
  rw [if_neg (fun h => hA (ha.1 h))]
  unfold fromR fromG fromB rgbV secV baseV
  obtain ⟨p1, p2⟩ := tmod_emod h0
  obtain ⟨T, hT⟩ : ∃ T, h0 % 65536 = T := ⟨_, rfl⟩
  have T0 : 0 ≤ T := by omega
  have T1 : T < 65536 := by omega
  rw [hT] at p1 p2 ⊢
  clear hT
  have hq : (6 * T).tdiv 65536 = 6 * T / 65536 := Int.tdiv_eq_ediv_of_nonneg (by omega)
  by_cases ho : 6 * T / 65536 % 2 = 1
  · have e2 : fallV T = 65536 - (6 * T - 65536 * (6 * T / 65536)) := by unfold fallV; rw [if_pos ho]
    rw [e2]
    by_cases hy : h0.tmod 65536 < 0
    · exact rFrom_on h0 h1 h2 al _ T _ _ _ _ _ _ _ w hA rfl (p1 hy).symm hy T0 T1 rfl rfl rfl hq rfl ho rfl rfl
    · exact rFrom_op h0 h1 h2 al _ T _ _ _ _ _ _ _ w hA rfl (p2 hy).symm hy T0 T1 rfl rfl rfl hq rfl ho rfl rfl
  · have e2 : fallV T = 6 * T - 65536 * (6 * T / 65536) := by unfold fallV; rw [if_neg ho]
    rw [e2]
    by_cases hy : h0.tmod 65536 < 0
    · exact rFrom_en h0 h1 h2 al _ T _ _ _ _ _ _ _ w hA rfl (p1 hy).symm hy T0 T1 rfl rfl rfl hq rfl (by omega) rfl rfl
    · exact rFrom_ep h0 h1 h2 al _ T _ _ _ _ _ _ _ w hA rfl (p2 hy).symm hy T0 T1 rfl rfl rfl hq rfl (by omega) rfl rfl
end Go.Proofs.Ytmgpmpiondciiaa.Adj
