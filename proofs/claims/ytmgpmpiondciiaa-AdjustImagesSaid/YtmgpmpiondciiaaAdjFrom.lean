/- adjust.FromHsl as a contract. No condition but the bounds of each theorem. -/
import Derived.Test.YtmgpmpiondciiaaAdjHsl
namespace Go.Proofs.Ytmgpmpiondciiaa.Adj
open Go.RowKit Go.Proofs.Ytmgpmpiondciiaa.PAdjustImages Go.Proofs.YtmgpmpiondciiaaW.PrintWords Go.Proofs.YtmgpmpiondciiaaW.PrintMore Go.Proofs.Ytmgpmpiondciiaa.Plain
attribute [local go_sem] max2_int min2_int max_two min_two max_three min_three
/-! ### FromHsl -/
def chromaV (s l : Int) : Int := rdiv (wide (2 * l - 65535) * s) 65535
theorem wide_range (l : Int) (l0 : 0 ≤ l) (l1 : l ≤ 65535) : 0 ≤ wide (2 * l - 65535) ∧ wide (2 * l - 65535) ≤ 65535 ∧ wide (2 * l - 65535) ≤ 2 * l ∧ wide (2 * l - 65535) ≤ 131070 - 2 * l := by
  unfold wide mx
  split <;> omega
theorem chroma_range (s l : Int) (s0 : 0 ≤ s) (s1 : s ≤ 65535) (l0 : 0 ≤ l) (l1 : l ≤ 65535) : 0 ≤ wide (2 * l - 65535) * s ∧ wide (2 * l - 65535) * s ≤ 4294836225 ∧ 0 ≤ chromaV s l ∧ chromaV s l ≤ 65535 ∧ chromaV s l ≤ wide (2 * l - 65535) := by
  obtain ⟨w0, w1, _, _⟩ := wide_range l l0 l1
  have h1 : wide (2 * l - 65535) * s ≤ wide (2 * l - 65535) * 65535 := Int.mul_le_mul_of_nonneg_left s1 w0
  have h0 : 0 ≤ wide (2 * l - 65535) * s := Int.mul_nonneg w0 s0
  have := rdiv_between (wide (2 * l - 65535) * s) 65535 0 (wide (2 * l - 65535)) (by omega) (by omega) (by omega)
  unfold chromaV
  omega
theorem part_range (c f : Int) (c0 : 0 ≤ c) (c1 : c ≤ 65535) (f0 : 0 ≤ f) (f1 : f ≤ 65536) : 0 ≤ c * f ∧ c * f ≤ 4294901760 ∧ 0 ≤ rdiv (c * f) 65536 ∧ rdiv (c * f) 65536 ≤ c := by
  have h1 : c * f ≤ c * 65536 := Int.mul_le_mul_of_nonneg_left f1 c0
  have h0 : 0 ≤ c * f := Int.mul_nonneg c0 f0
  have := rdiv_between (c * f) 65536 0 c (by omega) (by omega) (by omega)
  omega
theorem u71 : Try.prog.underlying 71 = some (.array 6 51) := by kernel_rfl
theorem u51 : Try.prog.underlying 51 = some (.array 3 3) := by kernel_rfl
@[local go_sem] theorem idx71_0 (a b c d e f g h i j k l m n o p q r : Value) (w : World) : (Instr.index 71 (.agg #[a, b, c, d, e, f, g, h, i, j, k, l, m, n, o, p, q, r]) (.int .i64 0)).run Try.prog w = .ok (.agg #[a, b, c]) w := by
  simp [Instr.index, run_underlying u71, run_underlying u51, asIntOf, part, isAgg, go_sem]
@[local go_sem] theorem idx71_1 (a b c d e f g h i j k l m n o p q r : Value) (w : World) : (Instr.index 71 (.agg #[a, b, c, d, e, f, g, h, i, j, k, l, m, n, o, p, q, r]) (.int .i64 1)).run Try.prog w = .ok (.agg #[d, e, f]) w := by
  simp [Instr.index, run_underlying u71, run_underlying u51, asIntOf, part, isAgg, go_sem]
@[local go_sem] theorem idx71_2 (a b c d e f g h i j k l m n o p q r : Value) (w : World) : (Instr.index 71 (.agg #[a, b, c, d, e, f, g, h, i, j, k, l, m, n, o, p, q, r]) (.int .i64 2)).run Try.prog w = .ok (.agg #[g, h, i]) w := by
  simp [Instr.index, run_underlying u71, run_underlying u51, asIntOf, part, isAgg, go_sem]
@[local go_sem] theorem idx71_3 (a b c d e f g h i j k l m n o p q r : Value) (w : World) : (Instr.index 71 (.agg #[a, b, c, d, e, f, g, h, i, j, k, l, m, n, o, p, q, r]) (.int .i64 3)).run Try.prog w = .ok (.agg #[j, k, l]) w := by
  simp [Instr.index, run_underlying u71, run_underlying u51, asIntOf, part, isAgg, go_sem]
@[local go_sem] theorem idx71_4 (a b c d e f g h i j k l m n o p q r : Value) (w : World) : (Instr.index 71 (.agg #[a, b, c, d, e, f, g, h, i, j, k, l, m, n, o, p, q, r]) (.int .i64 4)).run Try.prog w = .ok (.agg #[m, n, o]) w := by
  simp [Instr.index, run_underlying u71, run_underlying u51, asIntOf, part, isAgg, go_sem]
@[local go_sem] theorem idx71_5 (a b c d e f g h i j k l m n o p q r : Value) (w : World) : (Instr.index 71 (.agg #[a, b, c, d, e, f, g, h, i, j, k, l, m, n, o, p, q, r]) (.int .i64 5)).run Try.prog w = .ok (.agg #[p, q, r]) w := by
  simp [Instr.index, run_underlying u71, run_underlying u51, asIntOf, part, isAgg, go_sem]

set_option maxRecDepth 100000 in
set_option maxHeartbeats 3200000 in
theorem fromHsl_0 (h0 h1 h2 al A y s l c f x n : Int) (w : World) (hA : lim al = A) (qA : (A == 0) = false) (hy : h0.tmod 65536 = y) (qy : ¬ y < 0) (yb : -65536 < y) (yb2 : y < 65536) (hs : lim h1 = s) (hl : lim h2 = l)
    (hc : chromaV s l = c) (hq : (6 * y).tdiv 65536 = 0) (q0 : 0 ≤ 6 * y) (q1 : 6 * y < 65536) (hf : 6 * y - 0 = f) (hx : rdiv (c * f) 65536 = x) (hn : rdiv (2 * l - c) 2 = n) :
    Calls Try.prog 42 #[.agg #[.int .i64 h0, .int .i64 h1, .int .i64 h2], .int .i64 al] w fun e w' => e = .returned (.agg #[.int .i64 (lim (c + n)), .int .i64 (lim (x + n)), .int .i64 (lim (0 + n)), .int .i64 A]) ∧ Below w.heap.size w w' := by
  have _ := And.intro yb2 (And.intro q0 q1)
  obtain ⟨s0, s1⟩ := lim_range h1
  obtain ⟨l0, l1⟩ := lim_range h2
  rw [hs] at s0 s1
  rw [hl] at l0 l1
  obtain ⟨v0, v1, c0, c1, c2⟩ := chroma_range s l s0 s1 l0 l1
  rw [hc] at c0 c1 c2
  obtain ⟨w0, w1, w2, w3⟩ := wide_range l l0 l1
  unfold chromaV at hc
  obtain ⟨E, hE⟩ : ∃ z, (if 2 * l - 65535 < -(2 * l - 65535) then -(2 * l - 65535) else 2 * l - 65535) = z := ⟨_, rfl⟩
  have hW : wide (2 * l - 65535) = 65535 - E := by unfold wide mx; rw [hE]
  rw [hW] at hc v0 v1 w0 w1 w2 w3 c2
  obtain ⟨p0, p1, x0, x1⟩ := part_range c f c0 c1 (by omega) (by omega)
  rw [hx] at x0 x1
  have n0 : 0 ≤ n ∧ n ≤ 65535 := by
    rw [← hn]
    exact rdiv_between _ 2 0 65535 (by omega) (by omega) (by omega)
  obtain ⟨n0, n1⟩ := n0
  have HA : Aside0 (∀ w, Qt 65 #[.int .i64 al] w (.int .i64 A)) := ⟨fun w => by rw [← hA]; exact limQ al w⟩
  have HS : Aside0 (∀ w, Qt 65 #[.int .i64 h1] w (.int .i64 s)) := ⟨fun w => by rw [← hs]; exact limQ h1 w⟩
  have HLL : Aside0 (∀ w, Qt 65 #[.int .i64 h2] w (.int .i64 l)) := ⟨fun w => by rw [← hl]; exact limQ h2 w⟩
  have H1 : Aside0 (∀ w, Qt 60 #[.int .i64 ((65535 - E) * s), .int .i64 65535] w (.int .i64 c)) := ⟨fun w => by rw [← hc]; exact divQ _ 65535 w (by omega) (by omega) (by omega) (by omega)⟩
  have H2 : Aside0 (∀ w, Qt 60 #[.int .i64 (c * f), .int .i64 65536] w (.int .i64 x)) := ⟨fun w => by rw [← hx]; exact divQ _ 65536 w (by omega) (by omega) (by omega) (by omega)⟩
  have H3 : Aside0 (∀ w, Qt 60 #[.int .i64 (2 * l - c), .int .i64 2] w (.int .i64 n)) := ⟨fun w => by rw [← hn]; exact divQ _ 2 w (by omega) (by omega) (by omega) (by omega)⟩
  have HF : Aside0 (∀ x w, Calls Try.prog 65 #[.int .i64 x] w fun e w' => e = .returned (.int .i64 (lim x)) ∧ Below w.heap.size w w') := ⟨fun x w => limit_any x w⟩
  clear hA hs hl hc hx hn hW
  have e1 := wi (6 * y) (by omega) (by omega)
  have e2 := wi (2 * l) (by omega) (by omega)
  have e3 := wi (2 * l - 65535) (by omega) (by omega)
  have e4 := wi ((65535 - E) * s) (by omega) (by omega)
  have e5 := wi (65535 - E) (by omega) (by omega)
  have e6 := wi (c * f) (by omega) (by omega)
  have e7 := wi (2 * l - c) (by omega) (by omega)
  have e8 := wi (c + n) (by omega) (by omega)
  have e9 := wi (x + n) (by omega) (by omega)
  have e10 := wi n (by omega) (by omega)
  have HB := Aside0.mk (Below.refl w.heap.size w)
  go_enter Try.func42, Try.ntmps42
  go_wp2_with fail
  refine (HA.out _).mono ?_
  rintro e w1 ⟨rfl, m1, rfl⟩
  dsimp only
  go_wp2_with fail
  go_quiet (first | (go_at_call 65; with_reducible first | exact Qt.at (HS.out _) | exact Qt.at2 (HS.out _) | exact Qt.at (HLL.out _) | exact Qt.at2 (HLL.out _)))
  clear HA HS HLL
  go_wp2_with fail
  refine (H1.out _).mono ?_
  rintro e w2 ⟨rfl, m2, rfl⟩
  dsimp only
  go_wp2_with fail
  refine (H2.out _).mono ?_
  rintro e w3 ⟨rfl, m3, rfl⟩
  dsimp only
  go_wp2_with fail
  refine (H3.out _).mono ?_
  rintro e w4 ⟨rfl, m4, rfl⟩
  dsimp only
  clear H1 H2 H3
  go_wp2_with fail
  clear hE e1 e2 e3 e4 e5 e6 e7 hy qy qA hq hf
  generalize hWW : World.alloc (World.drewN (World.alloc (World.alloc w _) _) _) _ = W
  have k0 : W.cell? ⟨w.heap.size + 2, 0, none⟩ = some (Value.int .i64 c) := by rw [← hWW]; simp [go_sem]
  have k1 : W.cell? ⟨w.heap.size + 2, 1, none⟩ = some (Value.int .i64 x) := by rw [← hWW]; simp [go_sem]
  have k2 : W.cell? ⟨w.heap.size + 2, 2, none⟩ = some (Value.int .i64 0) := by rw [← hWW]; simp [go_sem]
  have j0 : W.cell? ⟨w.heap.size + 1, 0, none⟩ = some (.int .i64 0) := by rw [← hWW]; simp [go_sem]
  have j1 : W.cell? ⟨w.heap.size + 1, 1, none⟩ = some (.int .i64 0) := by rw [← hWW]; simp [go_sem]
  have j2 : W.cell? ⟨w.heap.size + 1, 2, none⟩ = some (.int .i64 0) := by rw [← hWW]; simp [go_sem]
  have j3 : W.cell? ⟨w.heap.size + 1, 3, none⟩ = some (.int .i64 0) := by rw [← hWW]; simp [go_sem]
  have i0 : W.frozen? ⟨w.heap.size + 1, 0, none⟩ = false := by rw [← hWW]; simp [go_sem]
  have i1 : W.frozen? ⟨w.heap.size + 1, 1, none⟩ = false := by rw [← hWW]; simp [go_sem]
  have i2 : W.frozen? ⟨w.heap.size + 1, 2, none⟩ = false := by rw [← hWW]; simp [go_sem]
  have i3 : W.frozen? ⟨w.heap.size + 1, 3, none⟩ = false := by rw [← hWW]; simp [go_sem]
  have HBW : Aside0 (Below w.heap.size w W) := ⟨by
    rw [← hWW]
    repeat (first | exact HB.out | refine below_alloc ?_ _ | refine pw_below_drewN ?_ _ | refine below_drew1 ?_)⟩
  clear HB hWW
  have HB := HBW
  clear HBW
  go_region_held3 (fun w' => w'.cell? ⟨w.heap.size + 2, 0, none⟩ = some (Value.int .i64 c) ∧ w'.cell? ⟨w.heap.size + 2, 1, none⟩ = some (Value.int .i64 x) ∧ w'.cell? ⟨w.heap.size + 2, 2, none⟩ = some (Value.int .i64 0))
    (first | go_keep | exact ⟨kept hb (by assumption), kept hb (by assumption), kept hb (by assumption)⟩ | (go_split_ands; exact ⟨kept hb (by assumption), kept hb (by assumption), kept hb (by assumption)⟩))
    ((go_at_call 65; refine (HF.out _ _).mono ?_; rintro e w' ⟨rfl, hb⟩; have nb : Aside0 (Below w.heap.size w w') := ⟨step (by repeat (first | exact HB.out | refine below_alloc ?_ _ | refine pw_below_drewN ?_ _ | refine below_drew1 ?_)) hb⟩; clear HB; have HB := nb; clear nb; have hz0 : w'.cell? ⟨w.heap.size + 1, 0, none⟩ = some (.int .i64 0) := kept hb (by first | assumption | simp); have hf0 : w'.frozen? ⟨w.heap.size + 1, 0, none⟩ = false := keptF hb (.int .i64 0) (by first | assumption | simp) (by first | assumption | simp); have hz1 : w'.cell? ⟨w.heap.size + 1, 1, none⟩ = some (.int .i64 0) := kept hb (by first | assumption | simp); have hf1 : w'.frozen? ⟨w.heap.size + 1, 1, none⟩ = false := keptF hb (.int .i64 0) (by first | assumption | simp) (by first | assumption | simp); have hz2 : w'.cell? ⟨w.heap.size + 1, 2, none⟩ = some (.int .i64 0) := kept hb (by first | assumption | simp); have hf2 : w'.frozen? ⟨w.heap.size + 1, 2, none⟩ = false := keptF hb (.int .i64 0) (by first | assumption | simp) (by first | assumption | simp); have hz3 : w'.cell? ⟨w.heap.size + 1, 3, none⟩ = some (.int .i64 0) := kept hb (by first | assumption | simp); have hf3 : w'.frozen? ⟨w.heap.size + 1, 3, none⟩ = false := keptF hb (.int .i64 0) (by first | assumption | simp) (by first | assumption | simp)))
  go_wp2
  refine bodyPost_ret (v := .agg #[.int .i64 (lim (c + n)), .int .i64 (lim (x + n)), .int .i64 (lim (0 + n)), .int .i64 A]) (by simp [results, Try.results42, go_sem, hz0, hz1, hz2, hz3]) rfl ⟨rfl, ?_⟩
  repeat (first | exact HB.out | exact Nat.le_succ _ | refine below_set ?_ (Nat.le_succ _) | refine pw_below_drewN ?_ _ | refine below_drew1 ?_)

set_option maxRecDepth 100000 in
set_option maxHeartbeats 3200000 in
theorem fromHsl_0n (h0 h1 h2 al A y s l c f x n : Int) (w : World) (hA : lim al = A) (qA : (A == 0) = false) (hy : h0.tmod 65536 = y) (qy : y < 0) (yb : -65536 < y) (yb2 : y < 65536) (hs : lim h1 = s) (hl : lim h2 = l)
    (hc : chromaV s l = c) (hq : (6 * (y + 65536)).tdiv 65536 = 0) (q0 : 0 ≤ 6 * (y + 65536)) (q1 : 6 * (y + 65536) < 65536) (hf : 6 * (y + 65536) - 0 = f) (hx : rdiv (c * f) 65536 = x) (hn : rdiv (2 * l - c) 2 = n) :
    Calls Try.prog 42 #[.agg #[.int .i64 h0, .int .i64 h1, .int .i64 h2], .int .i64 al] w fun e w' => e = .returned (.agg #[.int .i64 (lim (c + n)), .int .i64 (lim (x + n)), .int .i64 (lim (0 + n)), .int .i64 A]) ∧ Below w.heap.size w w' := by
  have _ := And.intro yb2 (And.intro q0 q1)
  obtain ⟨s0, s1⟩ := lim_range h1
  obtain ⟨l0, l1⟩ := lim_range h2
  rw [hs] at s0 s1
  rw [hl] at l0 l1
  obtain ⟨v0, v1, c0, c1, c2⟩ := chroma_range s l s0 s1 l0 l1
  rw [hc] at c0 c1 c2
  obtain ⟨w0, w1, w2, w3⟩ := wide_range l l0 l1
  unfold chromaV at hc
  obtain ⟨E, hE⟩ : ∃ z, (if 2 * l - 65535 < -(2 * l - 65535) then -(2 * l - 65535) else 2 * l - 65535) = z := ⟨_, rfl⟩
  have hW : wide (2 * l - 65535) = 65535 - E := by unfold wide mx; rw [hE]
  rw [hW] at hc v0 v1 w0 w1 w2 w3 c2
  obtain ⟨p0, p1, x0, x1⟩ := part_range c f c0 c1 (by omega) (by omega)
  rw [hx] at x0 x1
  have n0 : 0 ≤ n ∧ n ≤ 65535 := by
    rw [← hn]
    exact rdiv_between _ 2 0 65535 (by omega) (by omega) (by omega)
  obtain ⟨n0, n1⟩ := n0
  have HA : Aside0 (∀ w, Qt 65 #[.int .i64 al] w (.int .i64 A)) := ⟨fun w => by rw [← hA]; exact limQ al w⟩
  have HS : Aside0 (∀ w, Qt 65 #[.int .i64 h1] w (.int .i64 s)) := ⟨fun w => by rw [← hs]; exact limQ h1 w⟩
  have HLL : Aside0 (∀ w, Qt 65 #[.int .i64 h2] w (.int .i64 l)) := ⟨fun w => by rw [← hl]; exact limQ h2 w⟩
  have H1 : Aside0 (∀ w, Qt 60 #[.int .i64 ((65535 - E) * s), .int .i64 65535] w (.int .i64 c)) := ⟨fun w => by rw [← hc]; exact divQ _ 65535 w (by omega) (by omega) (by omega) (by omega)⟩
  have H2 : Aside0 (∀ w, Qt 60 #[.int .i64 (c * f), .int .i64 65536] w (.int .i64 x)) := ⟨fun w => by rw [← hx]; exact divQ _ 65536 w (by omega) (by omega) (by omega) (by omega)⟩
  have H3 : Aside0 (∀ w, Qt 60 #[.int .i64 (2 * l - c), .int .i64 2] w (.int .i64 n)) := ⟨fun w => by rw [← hn]; exact divQ _ 2 w (by omega) (by omega) (by omega) (by omega)⟩
  have HF : Aside0 (∀ x w, Calls Try.prog 65 #[.int .i64 x] w fun e w' => e = .returned (.int .i64 (lim x)) ∧ Below w.heap.size w w') := ⟨fun x w => limit_any x w⟩
  clear hA hs hl hc hx hn hW
  have e1 := wi (6 * (y + 65536)) (by omega) (by omega)
  have e2 := wi (2 * l) (by omega) (by omega)
  have e3 := wi (2 * l - 65535) (by omega) (by omega)
  have e4 := wi ((65535 - E) * s) (by omega) (by omega)
  have e5 := wi (65535 - E) (by omega) (by omega)
  have e6 := wi (c * f) (by omega) (by omega)
  have e7 := wi (2 * l - c) (by omega) (by omega)
  have e8 := wi (c + n) (by omega) (by omega)
  have e9 := wi (x + n) (by omega) (by omega)
  have e10 := wi n (by omega) (by omega)
  have HB := Aside0.mk (Below.refl w.heap.size w)
  go_enter Try.func42, Try.ntmps42
  go_wp2_with fail
  refine (HA.out _).mono ?_
  rintro e w1 ⟨rfl, m1, rfl⟩
  dsimp only
  go_wp2_with fail
  go_quiet (first | (go_at_call 65; with_reducible first | exact Qt.at (HS.out _) | exact Qt.at2 (HS.out _) | exact Qt.at (HLL.out _) | exact Qt.at2 (HLL.out _)))
  clear HA HS HLL
  go_wp2_with fail
  refine (H1.out _).mono ?_
  rintro e w2 ⟨rfl, m2, rfl⟩
  dsimp only
  go_wp2_with fail
  refine (H2.out _).mono ?_
  rintro e w3 ⟨rfl, m3, rfl⟩
  dsimp only
  go_wp2_with fail
  refine (H3.out _).mono ?_
  rintro e w4 ⟨rfl, m4, rfl⟩
  dsimp only
  clear H1 H2 H3
  go_wp2_with fail
  clear hE e1 e2 e3 e4 e5 e6 e7 hy qy qA hq hf
  generalize hWW : World.alloc (World.drewN (World.alloc (World.alloc w _) _) _) _ = W
  have k0 : W.cell? ⟨w.heap.size + 2, 0, none⟩ = some (Value.int .i64 c) := by rw [← hWW]; simp [go_sem]
  have k1 : W.cell? ⟨w.heap.size + 2, 1, none⟩ = some (Value.int .i64 x) := by rw [← hWW]; simp [go_sem]
  have k2 : W.cell? ⟨w.heap.size + 2, 2, none⟩ = some (Value.int .i64 0) := by rw [← hWW]; simp [go_sem]
  have j0 : W.cell? ⟨w.heap.size + 1, 0, none⟩ = some (.int .i64 0) := by rw [← hWW]; simp [go_sem]
  have j1 : W.cell? ⟨w.heap.size + 1, 1, none⟩ = some (.int .i64 0) := by rw [← hWW]; simp [go_sem]
  have j2 : W.cell? ⟨w.heap.size + 1, 2, none⟩ = some (.int .i64 0) := by rw [← hWW]; simp [go_sem]
  have j3 : W.cell? ⟨w.heap.size + 1, 3, none⟩ = some (.int .i64 0) := by rw [← hWW]; simp [go_sem]
  have i0 : W.frozen? ⟨w.heap.size + 1, 0, none⟩ = false := by rw [← hWW]; simp [go_sem]
  have i1 : W.frozen? ⟨w.heap.size + 1, 1, none⟩ = false := by rw [← hWW]; simp [go_sem]
  have i2 : W.frozen? ⟨w.heap.size + 1, 2, none⟩ = false := by rw [← hWW]; simp [go_sem]
  have i3 : W.frozen? ⟨w.heap.size + 1, 3, none⟩ = false := by rw [← hWW]; simp [go_sem]
  have HBW : Aside0 (Below w.heap.size w W) := ⟨by
    rw [← hWW]
    repeat (first | exact HB.out | refine below_alloc ?_ _ | refine pw_below_drewN ?_ _ | refine below_drew1 ?_)⟩
  clear HB hWW
  have HB := HBW
  clear HBW
  go_region_held3 (fun w' => w'.cell? ⟨w.heap.size + 2, 0, none⟩ = some (Value.int .i64 c) ∧ w'.cell? ⟨w.heap.size + 2, 1, none⟩ = some (Value.int .i64 x) ∧ w'.cell? ⟨w.heap.size + 2, 2, none⟩ = some (Value.int .i64 0))
    (first | go_keep | exact ⟨kept hb (by assumption), kept hb (by assumption), kept hb (by assumption)⟩ | (go_split_ands; exact ⟨kept hb (by assumption), kept hb (by assumption), kept hb (by assumption)⟩))
    ((go_at_call 65; refine (HF.out _ _).mono ?_; rintro e w' ⟨rfl, hb⟩; have nb : Aside0 (Below w.heap.size w w') := ⟨step (by repeat (first | exact HB.out | refine below_alloc ?_ _ | refine pw_below_drewN ?_ _ | refine below_drew1 ?_)) hb⟩; clear HB; have HB := nb; clear nb; have hz0 : w'.cell? ⟨w.heap.size + 1, 0, none⟩ = some (.int .i64 0) := kept hb (by first | assumption | simp); have hf0 : w'.frozen? ⟨w.heap.size + 1, 0, none⟩ = false := keptF hb (.int .i64 0) (by first | assumption | simp) (by first | assumption | simp); have hz1 : w'.cell? ⟨w.heap.size + 1, 1, none⟩ = some (.int .i64 0) := kept hb (by first | assumption | simp); have hf1 : w'.frozen? ⟨w.heap.size + 1, 1, none⟩ = false := keptF hb (.int .i64 0) (by first | assumption | simp) (by first | assumption | simp); have hz2 : w'.cell? ⟨w.heap.size + 1, 2, none⟩ = some (.int .i64 0) := kept hb (by first | assumption | simp); have hf2 : w'.frozen? ⟨w.heap.size + 1, 2, none⟩ = false := keptF hb (.int .i64 0) (by first | assumption | simp) (by first | assumption | simp); have hz3 : w'.cell? ⟨w.heap.size + 1, 3, none⟩ = some (.int .i64 0) := kept hb (by first | assumption | simp); have hf3 : w'.frozen? ⟨w.heap.size + 1, 3, none⟩ = false := keptF hb (.int .i64 0) (by first | assumption | simp) (by first | assumption | simp)))
  go_wp2
  refine bodyPost_ret (v := .agg #[.int .i64 (lim (c + n)), .int .i64 (lim (x + n)), .int .i64 (lim (0 + n)), .int .i64 A]) (by simp [results, Try.results42, go_sem, hz0, hz1, hz2, hz3]) rfl ⟨rfl, ?_⟩
  repeat (first | exact HB.out | exact Nat.le_succ _ | refine below_set ?_ (Nat.le_succ _) | refine pw_below_drewN ?_ _ | refine below_drew1 ?_)

set_option maxRecDepth 100000 in
set_option maxHeartbeats 3200000 in
theorem fromHsl_1 (h0 h1 h2 al A y s l c f x n : Int) (w : World) (hA : lim al = A) (qA : (A == 0) = false) (hy : h0.tmod 65536 = y) (qy : ¬ y < 0) (yb : -65536 < y) (yb2 : y < 65536) (hs : lim h1 = s) (hl : lim h2 = l)
    (hc : chromaV s l = c) (hq : (6 * y).tdiv 65536 = 1) (q0 : 65536 ≤ 6 * y) (q1 : 6 * y < 131072) (hf : 65536 - (6 * y - 65536) = f) (hx : rdiv (c * f) 65536 = x) (hn : rdiv (2 * l - c) 2 = n) :
    Calls Try.prog 42 #[.agg #[.int .i64 h0, .int .i64 h1, .int .i64 h2], .int .i64 al] w fun e w' => e = .returned (.agg #[.int .i64 (lim (x + n)), .int .i64 (lim (c + n)), .int .i64 (lim (0 + n)), .int .i64 A]) ∧ Below w.heap.size w w' := by
  have _ := And.intro yb2 (And.intro q0 q1)
  obtain ⟨s0, s1⟩ := lim_range h1
  obtain ⟨l0, l1⟩ := lim_range h2
  rw [hs] at s0 s1
  rw [hl] at l0 l1
  obtain ⟨v0, v1, c0, c1, c2⟩ := chroma_range s l s0 s1 l0 l1
  rw [hc] at c0 c1 c2
  obtain ⟨w0, w1, w2, w3⟩ := wide_range l l0 l1
  unfold chromaV at hc
  obtain ⟨E, hE⟩ : ∃ z, (if 2 * l - 65535 < -(2 * l - 65535) then -(2 * l - 65535) else 2 * l - 65535) = z := ⟨_, rfl⟩
  have hW : wide (2 * l - 65535) = 65535 - E := by unfold wide mx; rw [hE]
  rw [hW] at hc v0 v1 w0 w1 w2 w3 c2
  obtain ⟨p0, p1, x0, x1⟩ := part_range c f c0 c1 (by omega) (by omega)
  rw [hx] at x0 x1
  have n0 : 0 ≤ n ∧ n ≤ 65535 := by
    rw [← hn]
    exact rdiv_between _ 2 0 65535 (by omega) (by omega) (by omega)
  obtain ⟨n0, n1⟩ := n0
  have HA : Aside0 (∀ w, Qt 65 #[.int .i64 al] w (.int .i64 A)) := ⟨fun w => by rw [← hA]; exact limQ al w⟩
  have HS : Aside0 (∀ w, Qt 65 #[.int .i64 h1] w (.int .i64 s)) := ⟨fun w => by rw [← hs]; exact limQ h1 w⟩
  have HLL : Aside0 (∀ w, Qt 65 #[.int .i64 h2] w (.int .i64 l)) := ⟨fun w => by rw [← hl]; exact limQ h2 w⟩
  have H1 : Aside0 (∀ w, Qt 60 #[.int .i64 ((65535 - E) * s), .int .i64 65535] w (.int .i64 c)) := ⟨fun w => by rw [← hc]; exact divQ _ 65535 w (by omega) (by omega) (by omega) (by omega)⟩
  have H2 : Aside0 (∀ w, Qt 60 #[.int .i64 (c * f), .int .i64 65536] w (.int .i64 x)) := ⟨fun w => by rw [← hx]; exact divQ _ 65536 w (by omega) (by omega) (by omega) (by omega)⟩
  have H3 : Aside0 (∀ w, Qt 60 #[.int .i64 (2 * l - c), .int .i64 2] w (.int .i64 n)) := ⟨fun w => by rw [← hn]; exact divQ _ 2 w (by omega) (by omega) (by omega) (by omega)⟩
  have HF : Aside0 (∀ x w, Calls Try.prog 65 #[.int .i64 x] w fun e w' => e = .returned (.int .i64 (lim x)) ∧ Below w.heap.size w w') := ⟨fun x w => limit_any x w⟩
  clear hA hs hl hc hx hn hW
  have e1 := wi (6 * y) (by omega) (by omega)
  have e2 := wi (2 * l) (by omega) (by omega)
  have e3 := wi (2 * l - 65535) (by omega) (by omega)
  have e4 := wi ((65535 - E) * s) (by omega) (by omega)
  have e5 := wi (65535 - E) (by omega) (by omega)
  have e6 := wi (c * f) (by omega) (by omega)
  have e7 := wi (2 * l - c) (by omega) (by omega)
  have e8 := wi (c + n) (by omega) (by omega)
  have e9 := wi (x + n) (by omega) (by omega)
  have e10 := wi n (by omega) (by omega)
  have HB := Aside0.mk (Below.refl w.heap.size w)
  go_enter Try.func42, Try.ntmps42
  go_wp2_with fail
  refine (HA.out _).mono ?_
  rintro e w1 ⟨rfl, m1, rfl⟩
  dsimp only
  go_wp2_with fail
  go_quiet (first | (go_at_call 65; with_reducible first | exact Qt.at (HS.out _) | exact Qt.at2 (HS.out _) | exact Qt.at (HLL.out _) | exact Qt.at2 (HLL.out _)))
  clear HA HS HLL
  go_wp2_with fail
  refine (H1.out _).mono ?_
  rintro e w2 ⟨rfl, m2, rfl⟩
  dsimp only
  go_wp2_with fail
  refine (H2.out _).mono ?_
  rintro e w3 ⟨rfl, m3, rfl⟩
  dsimp only
  go_wp2_with fail
  refine (H3.out _).mono ?_
  rintro e w4 ⟨rfl, m4, rfl⟩
  dsimp only
  clear H1 H2 H3
  go_wp2_with fail
  clear hE e1 e2 e3 e4 e5 e6 e7 hy qy qA hq hf
  generalize hWW : World.alloc (World.drewN (World.alloc (World.alloc w _) _) _) _ = W
  have k0 : W.cell? ⟨w.heap.size + 2, 0, none⟩ = some (Value.int .i64 x) := by rw [← hWW]; simp [go_sem]
  have k1 : W.cell? ⟨w.heap.size + 2, 1, none⟩ = some (Value.int .i64 c) := by rw [← hWW]; simp [go_sem]
  have k2 : W.cell? ⟨w.heap.size + 2, 2, none⟩ = some (Value.int .i64 0) := by rw [← hWW]; simp [go_sem]
  have j0 : W.cell? ⟨w.heap.size + 1, 0, none⟩ = some (.int .i64 0) := by rw [← hWW]; simp [go_sem]
  have j1 : W.cell? ⟨w.heap.size + 1, 1, none⟩ = some (.int .i64 0) := by rw [← hWW]; simp [go_sem]
  have j2 : W.cell? ⟨w.heap.size + 1, 2, none⟩ = some (.int .i64 0) := by rw [← hWW]; simp [go_sem]
  have j3 : W.cell? ⟨w.heap.size + 1, 3, none⟩ = some (.int .i64 0) := by rw [← hWW]; simp [go_sem]
  have i0 : W.frozen? ⟨w.heap.size + 1, 0, none⟩ = false := by rw [← hWW]; simp [go_sem]
  have i1 : W.frozen? ⟨w.heap.size + 1, 1, none⟩ = false := by rw [← hWW]; simp [go_sem]
  have i2 : W.frozen? ⟨w.heap.size + 1, 2, none⟩ = false := by rw [← hWW]; simp [go_sem]
  have i3 : W.frozen? ⟨w.heap.size + 1, 3, none⟩ = false := by rw [← hWW]; simp [go_sem]
  have HBW : Aside0 (Below w.heap.size w W) := ⟨by
    rw [← hWW]
    repeat (first | exact HB.out | refine below_alloc ?_ _ | refine pw_below_drewN ?_ _ | refine below_drew1 ?_)⟩
  clear HB hWW
  have HB := HBW
  clear HBW
  go_region_held3 (fun w' => w'.cell? ⟨w.heap.size + 2, 0, none⟩ = some (Value.int .i64 x) ∧ w'.cell? ⟨w.heap.size + 2, 1, none⟩ = some (Value.int .i64 c) ∧ w'.cell? ⟨w.heap.size + 2, 2, none⟩ = some (Value.int .i64 0))
    (first | go_keep | exact ⟨kept hb (by assumption), kept hb (by assumption), kept hb (by assumption)⟩ | (go_split_ands; exact ⟨kept hb (by assumption), kept hb (by assumption), kept hb (by assumption)⟩))
    ((go_at_call 65; refine (HF.out _ _).mono ?_; rintro e w' ⟨rfl, hb⟩; have nb : Aside0 (Below w.heap.size w w') := ⟨step (by repeat (first | exact HB.out | refine below_alloc ?_ _ | refine pw_below_drewN ?_ _ | refine below_drew1 ?_)) hb⟩; clear HB; have HB := nb; clear nb; have hz0 : w'.cell? ⟨w.heap.size + 1, 0, none⟩ = some (.int .i64 0) := kept hb (by first | assumption | simp); have hf0 : w'.frozen? ⟨w.heap.size + 1, 0, none⟩ = false := keptF hb (.int .i64 0) (by first | assumption | simp) (by first | assumption | simp); have hz1 : w'.cell? ⟨w.heap.size + 1, 1, none⟩ = some (.int .i64 0) := kept hb (by first | assumption | simp); have hf1 : w'.frozen? ⟨w.heap.size + 1, 1, none⟩ = false := keptF hb (.int .i64 0) (by first | assumption | simp) (by first | assumption | simp); have hz2 : w'.cell? ⟨w.heap.size + 1, 2, none⟩ = some (.int .i64 0) := kept hb (by first | assumption | simp); have hf2 : w'.frozen? ⟨w.heap.size + 1, 2, none⟩ = false := keptF hb (.int .i64 0) (by first | assumption | simp) (by first | assumption | simp); have hz3 : w'.cell? ⟨w.heap.size + 1, 3, none⟩ = some (.int .i64 0) := kept hb (by first | assumption | simp); have hf3 : w'.frozen? ⟨w.heap.size + 1, 3, none⟩ = false := keptF hb (.int .i64 0) (by first | assumption | simp) (by first | assumption | simp)))
  go_wp2
  refine bodyPost_ret (v := .agg #[.int .i64 (lim (x + n)), .int .i64 (lim (c + n)), .int .i64 (lim (0 + n)), .int .i64 A]) (by simp [results, Try.results42, go_sem, hz0, hz1, hz2, hz3]) rfl ⟨rfl, ?_⟩
  repeat (first | exact HB.out | exact Nat.le_succ _ | refine below_set ?_ (Nat.le_succ _) | refine pw_below_drewN ?_ _ | refine below_drew1 ?_)

set_option maxRecDepth 100000 in
set_option maxHeartbeats 3200000 in
theorem fromHsl_1n (h0 h1 h2 al A y s l c f x n : Int) (w : World) (hA : lim al = A) (qA : (A == 0) = false) (hy : h0.tmod 65536 = y) (qy : y < 0) (yb : -65536 < y) (yb2 : y < 65536) (hs : lim h1 = s) (hl : lim h2 = l)
    (hc : chromaV s l = c) (hq : (6 * (y + 65536)).tdiv 65536 = 1) (q0 : 65536 ≤ 6 * (y + 65536)) (q1 : 6 * (y + 65536) < 131072) (hf : 65536 - (6 * (y + 65536) - 65536) = f) (hx : rdiv (c * f) 65536 = x) (hn : rdiv (2 * l - c) 2 = n) :
    Calls Try.prog 42 #[.agg #[.int .i64 h0, .int .i64 h1, .int .i64 h2], .int .i64 al] w fun e w' => e = .returned (.agg #[.int .i64 (lim (x + n)), .int .i64 (lim (c + n)), .int .i64 (lim (0 + n)), .int .i64 A]) ∧ Below w.heap.size w w' := by
  have _ := And.intro yb2 (And.intro q0 q1)
  obtain ⟨s0, s1⟩ := lim_range h1
  obtain ⟨l0, l1⟩ := lim_range h2
  rw [hs] at s0 s1
  rw [hl] at l0 l1
  obtain ⟨v0, v1, c0, c1, c2⟩ := chroma_range s l s0 s1 l0 l1
  rw [hc] at c0 c1 c2
  obtain ⟨w0, w1, w2, w3⟩ := wide_range l l0 l1
  unfold chromaV at hc
  obtain ⟨E, hE⟩ : ∃ z, (if 2 * l - 65535 < -(2 * l - 65535) then -(2 * l - 65535) else 2 * l - 65535) = z := ⟨_, rfl⟩
  have hW : wide (2 * l - 65535) = 65535 - E := by unfold wide mx; rw [hE]
  rw [hW] at hc v0 v1 w0 w1 w2 w3 c2
  obtain ⟨p0, p1, x0, x1⟩ := part_range c f c0 c1 (by omega) (by omega)
  rw [hx] at x0 x1
  have n0 : 0 ≤ n ∧ n ≤ 65535 := by
    rw [← hn]
    exact rdiv_between _ 2 0 65535 (by omega) (by omega) (by omega)
  obtain ⟨n0, n1⟩ := n0
  have HA : Aside0 (∀ w, Qt 65 #[.int .i64 al] w (.int .i64 A)) := ⟨fun w => by rw [← hA]; exact limQ al w⟩
  have HS : Aside0 (∀ w, Qt 65 #[.int .i64 h1] w (.int .i64 s)) := ⟨fun w => by rw [← hs]; exact limQ h1 w⟩
  have HLL : Aside0 (∀ w, Qt 65 #[.int .i64 h2] w (.int .i64 l)) := ⟨fun w => by rw [← hl]; exact limQ h2 w⟩
  have H1 : Aside0 (∀ w, Qt 60 #[.int .i64 ((65535 - E) * s), .int .i64 65535] w (.int .i64 c)) := ⟨fun w => by rw [← hc]; exact divQ _ 65535 w (by omega) (by omega) (by omega) (by omega)⟩
  have H2 : Aside0 (∀ w, Qt 60 #[.int .i64 (c * f), .int .i64 65536] w (.int .i64 x)) := ⟨fun w => by rw [← hx]; exact divQ _ 65536 w (by omega) (by omega) (by omega) (by omega)⟩
  have H3 : Aside0 (∀ w, Qt 60 #[.int .i64 (2 * l - c), .int .i64 2] w (.int .i64 n)) := ⟨fun w => by rw [← hn]; exact divQ _ 2 w (by omega) (by omega) (by omega) (by omega)⟩
  have HF : Aside0 (∀ x w, Calls Try.prog 65 #[.int .i64 x] w fun e w' => e = .returned (.int .i64 (lim x)) ∧ Below w.heap.size w w') := ⟨fun x w => limit_any x w⟩
  clear hA hs hl hc hx hn hW
  have e1 := wi (6 * (y + 65536)) (by omega) (by omega)
  have e2 := wi (2 * l) (by omega) (by omega)
  have e3 := wi (2 * l - 65535) (by omega) (by omega)
  have e4 := wi ((65535 - E) * s) (by omega) (by omega)
  have e5 := wi (65535 - E) (by omega) (by omega)
  have e6 := wi (c * f) (by omega) (by omega)
  have e7 := wi (2 * l - c) (by omega) (by omega)
  have e8 := wi (c + n) (by omega) (by omega)
  have e9 := wi (x + n) (by omega) (by omega)
  have e10 := wi n (by omega) (by omega)
  have HB := Aside0.mk (Below.refl w.heap.size w)
  go_enter Try.func42, Try.ntmps42
  go_wp2_with fail
  refine (HA.out _).mono ?_
  rintro e w1 ⟨rfl, m1, rfl⟩
  dsimp only
  go_wp2_with fail
  go_quiet (first | (go_at_call 65; with_reducible first | exact Qt.at (HS.out _) | exact Qt.at2 (HS.out _) | exact Qt.at (HLL.out _) | exact Qt.at2 (HLL.out _)))
  clear HA HS HLL
  go_wp2_with fail
  refine (H1.out _).mono ?_
  rintro e w2 ⟨rfl, m2, rfl⟩
  dsimp only
  go_wp2_with fail
  refine (H2.out _).mono ?_
  rintro e w3 ⟨rfl, m3, rfl⟩
  dsimp only
  go_wp2_with fail
  refine (H3.out _).mono ?_
  rintro e w4 ⟨rfl, m4, rfl⟩
  dsimp only
  clear H1 H2 H3
  go_wp2_with fail
  clear hE e1 e2 e3 e4 e5 e6 e7 hy qy qA hq hf
  generalize hWW : World.alloc (World.drewN (World.alloc (World.alloc w _) _) _) _ = W
  have k0 : W.cell? ⟨w.heap.size + 2, 0, none⟩ = some (Value.int .i64 x) := by rw [← hWW]; simp [go_sem]
  have k1 : W.cell? ⟨w.heap.size + 2, 1, none⟩ = some (Value.int .i64 c) := by rw [← hWW]; simp [go_sem]
  have k2 : W.cell? ⟨w.heap.size + 2, 2, none⟩ = some (Value.int .i64 0) := by rw [← hWW]; simp [go_sem]
  have j0 : W.cell? ⟨w.heap.size + 1, 0, none⟩ = some (.int .i64 0) := by rw [← hWW]; simp [go_sem]
  have j1 : W.cell? ⟨w.heap.size + 1, 1, none⟩ = some (.int .i64 0) := by rw [← hWW]; simp [go_sem]
  have j2 : W.cell? ⟨w.heap.size + 1, 2, none⟩ = some (.int .i64 0) := by rw [← hWW]; simp [go_sem]
  have j3 : W.cell? ⟨w.heap.size + 1, 3, none⟩ = some (.int .i64 0) := by rw [← hWW]; simp [go_sem]
  have i0 : W.frozen? ⟨w.heap.size + 1, 0, none⟩ = false := by rw [← hWW]; simp [go_sem]
  have i1 : W.frozen? ⟨w.heap.size + 1, 1, none⟩ = false := by rw [← hWW]; simp [go_sem]
  have i2 : W.frozen? ⟨w.heap.size + 1, 2, none⟩ = false := by rw [← hWW]; simp [go_sem]
  have i3 : W.frozen? ⟨w.heap.size + 1, 3, none⟩ = false := by rw [← hWW]; simp [go_sem]
  have HBW : Aside0 (Below w.heap.size w W) := ⟨by
    rw [← hWW]
    repeat (first | exact HB.out | refine below_alloc ?_ _ | refine pw_below_drewN ?_ _ | refine below_drew1 ?_)⟩
  clear HB hWW
  have HB := HBW
  clear HBW
  go_region_held3 (fun w' => w'.cell? ⟨w.heap.size + 2, 0, none⟩ = some (Value.int .i64 x) ∧ w'.cell? ⟨w.heap.size + 2, 1, none⟩ = some (Value.int .i64 c) ∧ w'.cell? ⟨w.heap.size + 2, 2, none⟩ = some (Value.int .i64 0))
    (first | go_keep | exact ⟨kept hb (by assumption), kept hb (by assumption), kept hb (by assumption)⟩ | (go_split_ands; exact ⟨kept hb (by assumption), kept hb (by assumption), kept hb (by assumption)⟩))
    ((go_at_call 65; refine (HF.out _ _).mono ?_; rintro e w' ⟨rfl, hb⟩; have nb : Aside0 (Below w.heap.size w w') := ⟨step (by repeat (first | exact HB.out | refine below_alloc ?_ _ | refine pw_below_drewN ?_ _ | refine below_drew1 ?_)) hb⟩; clear HB; have HB := nb; clear nb; have hz0 : w'.cell? ⟨w.heap.size + 1, 0, none⟩ = some (.int .i64 0) := kept hb (by first | assumption | simp); have hf0 : w'.frozen? ⟨w.heap.size + 1, 0, none⟩ = false := keptF hb (.int .i64 0) (by first | assumption | simp) (by first | assumption | simp); have hz1 : w'.cell? ⟨w.heap.size + 1, 1, none⟩ = some (.int .i64 0) := kept hb (by first | assumption | simp); have hf1 : w'.frozen? ⟨w.heap.size + 1, 1, none⟩ = false := keptF hb (.int .i64 0) (by first | assumption | simp) (by first | assumption | simp); have hz2 : w'.cell? ⟨w.heap.size + 1, 2, none⟩ = some (.int .i64 0) := kept hb (by first | assumption | simp); have hf2 : w'.frozen? ⟨w.heap.size + 1, 2, none⟩ = false := keptF hb (.int .i64 0) (by first | assumption | simp) (by first | assumption | simp); have hz3 : w'.cell? ⟨w.heap.size + 1, 3, none⟩ = some (.int .i64 0) := kept hb (by first | assumption | simp); have hf3 : w'.frozen? ⟨w.heap.size + 1, 3, none⟩ = false := keptF hb (.int .i64 0) (by first | assumption | simp) (by first | assumption | simp)))
  go_wp2
  refine bodyPost_ret (v := .agg #[.int .i64 (lim (x + n)), .int .i64 (lim (c + n)), .int .i64 (lim (0 + n)), .int .i64 A]) (by simp [results, Try.results42, go_sem, hz0, hz1, hz2, hz3]) rfl ⟨rfl, ?_⟩
  repeat (first | exact HB.out | exact Nat.le_succ _ | refine below_set ?_ (Nat.le_succ _) | refine pw_below_drewN ?_ _ | refine below_drew1 ?_)

set_option maxRecDepth 100000 in
set_option maxHeartbeats 3200000 in
theorem fromHsl_2 (h0 h1 h2 al A y s l c f x n : Int) (w : World) (hA : lim al = A) (qA : (A == 0) = false) (hy : h0.tmod 65536 = y) (qy : ¬ y < 0) (yb : -65536 < y) (yb2 : y < 65536) (hs : lim h1 = s) (hl : lim h2 = l)
    (hc : chromaV s l = c) (hq : (6 * y).tdiv 65536 = 2) (q0 : 131072 ≤ 6 * y) (q1 : 6 * y < 196608) (hf : 6 * y - 131072 = f) (hx : rdiv (c * f) 65536 = x) (hn : rdiv (2 * l - c) 2 = n) :
    Calls Try.prog 42 #[.agg #[.int .i64 h0, .int .i64 h1, .int .i64 h2], .int .i64 al] w fun e w' => e = .returned (.agg #[.int .i64 (lim (0 + n)), .int .i64 (lim (c + n)), .int .i64 (lim (x + n)), .int .i64 A]) ∧ Below w.heap.size w w' := by
  have _ := And.intro yb2 (And.intro q0 q1)
  obtain ⟨s0, s1⟩ := lim_range h1
  obtain ⟨l0, l1⟩ := lim_range h2
  rw [hs] at s0 s1
  rw [hl] at l0 l1
  obtain ⟨v0, v1, c0, c1, c2⟩ := chroma_range s l s0 s1 l0 l1
  rw [hc] at c0 c1 c2
  obtain ⟨w0, w1, w2, w3⟩ := wide_range l l0 l1
  unfold chromaV at hc
  obtain ⟨E, hE⟩ : ∃ z, (if 2 * l - 65535 < -(2 * l - 65535) then -(2 * l - 65535) else 2 * l - 65535) = z := ⟨_, rfl⟩
  have hW : wide (2 * l - 65535) = 65535 - E := by unfold wide mx; rw [hE]
  rw [hW] at hc v0 v1 w0 w1 w2 w3 c2
  obtain ⟨p0, p1, x0, x1⟩ := part_range c f c0 c1 (by omega) (by omega)
  rw [hx] at x0 x1
  have n0 : 0 ≤ n ∧ n ≤ 65535 := by
    rw [← hn]
    exact rdiv_between _ 2 0 65535 (by omega) (by omega) (by omega)
  obtain ⟨n0, n1⟩ := n0
  have HA : Aside0 (∀ w, Qt 65 #[.int .i64 al] w (.int .i64 A)) := ⟨fun w => by rw [← hA]; exact limQ al w⟩
  have HS : Aside0 (∀ w, Qt 65 #[.int .i64 h1] w (.int .i64 s)) := ⟨fun w => by rw [← hs]; exact limQ h1 w⟩
  have HLL : Aside0 (∀ w, Qt 65 #[.int .i64 h2] w (.int .i64 l)) := ⟨fun w => by rw [← hl]; exact limQ h2 w⟩
  have H1 : Aside0 (∀ w, Qt 60 #[.int .i64 ((65535 - E) * s), .int .i64 65535] w (.int .i64 c)) := ⟨fun w => by rw [← hc]; exact divQ _ 65535 w (by omega) (by omega) (by omega) (by omega)⟩
  have H2 : Aside0 (∀ w, Qt 60 #[.int .i64 (c * f), .int .i64 65536] w (.int .i64 x)) := ⟨fun w => by rw [← hx]; exact divQ _ 65536 w (by omega) (by omega) (by omega) (by omega)⟩
  have H3 : Aside0 (∀ w, Qt 60 #[.int .i64 (2 * l - c), .int .i64 2] w (.int .i64 n)) := ⟨fun w => by rw [← hn]; exact divQ _ 2 w (by omega) (by omega) (by omega) (by omega)⟩
  have HF : Aside0 (∀ x w, Calls Try.prog 65 #[.int .i64 x] w fun e w' => e = .returned (.int .i64 (lim x)) ∧ Below w.heap.size w w') := ⟨fun x w => limit_any x w⟩
  clear hA hs hl hc hx hn hW
  have e1 := wi (6 * y) (by omega) (by omega)
  have e2 := wi (2 * l) (by omega) (by omega)
  have e3 := wi (2 * l - 65535) (by omega) (by omega)
  have e4 := wi ((65535 - E) * s) (by omega) (by omega)
  have e5 := wi (65535 - E) (by omega) (by omega)
  have e6 := wi (c * f) (by omega) (by omega)
  have e7 := wi (2 * l - c) (by omega) (by omega)
  have e8 := wi (c + n) (by omega) (by omega)
  have e9 := wi (x + n) (by omega) (by omega)
  have e10 := wi n (by omega) (by omega)
  have HB := Aside0.mk (Below.refl w.heap.size w)
  go_enter Try.func42, Try.ntmps42
  go_wp2_with fail
  refine (HA.out _).mono ?_
  rintro e w1 ⟨rfl, m1, rfl⟩
  dsimp only
  go_wp2_with fail
  go_quiet (first | (go_at_call 65; with_reducible first | exact Qt.at (HS.out _) | exact Qt.at2 (HS.out _) | exact Qt.at (HLL.out _) | exact Qt.at2 (HLL.out _)))
  clear HA HS HLL
  go_wp2_with fail
  refine (H1.out _).mono ?_
  rintro e w2 ⟨rfl, m2, rfl⟩
  dsimp only
  go_wp2_with fail
  refine (H2.out _).mono ?_
  rintro e w3 ⟨rfl, m3, rfl⟩
  dsimp only
  go_wp2_with fail
  refine (H3.out _).mono ?_
  rintro e w4 ⟨rfl, m4, rfl⟩
  dsimp only
  clear H1 H2 H3
  go_wp2_with fail
  clear hE e1 e2 e3 e4 e5 e6 e7 hy qy qA hq hf
  generalize hWW : World.alloc (World.drewN (World.alloc (World.alloc w _) _) _) _ = W
  have k0 : W.cell? ⟨w.heap.size + 2, 0, none⟩ = some (Value.int .i64 0) := by rw [← hWW]; simp [go_sem]
  have k1 : W.cell? ⟨w.heap.size + 2, 1, none⟩ = some (Value.int .i64 c) := by rw [← hWW]; simp [go_sem]
  have k2 : W.cell? ⟨w.heap.size + 2, 2, none⟩ = some (Value.int .i64 x) := by rw [← hWW]; simp [go_sem]
  have j0 : W.cell? ⟨w.heap.size + 1, 0, none⟩ = some (.int .i64 0) := by rw [← hWW]; simp [go_sem]
  have j1 : W.cell? ⟨w.heap.size + 1, 1, none⟩ = some (.int .i64 0) := by rw [← hWW]; simp [go_sem]
  have j2 : W.cell? ⟨w.heap.size + 1, 2, none⟩ = some (.int .i64 0) := by rw [← hWW]; simp [go_sem]
  have j3 : W.cell? ⟨w.heap.size + 1, 3, none⟩ = some (.int .i64 0) := by rw [← hWW]; simp [go_sem]
  have i0 : W.frozen? ⟨w.heap.size + 1, 0, none⟩ = false := by rw [← hWW]; simp [go_sem]
  have i1 : W.frozen? ⟨w.heap.size + 1, 1, none⟩ = false := by rw [← hWW]; simp [go_sem]
  have i2 : W.frozen? ⟨w.heap.size + 1, 2, none⟩ = false := by rw [← hWW]; simp [go_sem]
  have i3 : W.frozen? ⟨w.heap.size + 1, 3, none⟩ = false := by rw [← hWW]; simp [go_sem]
  have HBW : Aside0 (Below w.heap.size w W) := ⟨by
    rw [← hWW]
    repeat (first | exact HB.out | refine below_alloc ?_ _ | refine pw_below_drewN ?_ _ | refine below_drew1 ?_)⟩
  clear HB hWW
  have HB := HBW
  clear HBW
  go_region_held3 (fun w' => w'.cell? ⟨w.heap.size + 2, 0, none⟩ = some (Value.int .i64 0) ∧ w'.cell? ⟨w.heap.size + 2, 1, none⟩ = some (Value.int .i64 c) ∧ w'.cell? ⟨w.heap.size + 2, 2, none⟩ = some (Value.int .i64 x))
    (first | go_keep | exact ⟨kept hb (by assumption), kept hb (by assumption), kept hb (by assumption)⟩ | (go_split_ands; exact ⟨kept hb (by assumption), kept hb (by assumption), kept hb (by assumption)⟩))
    ((go_at_call 65; refine (HF.out _ _).mono ?_; rintro e w' ⟨rfl, hb⟩; have nb : Aside0 (Below w.heap.size w w') := ⟨step (by repeat (first | exact HB.out | refine below_alloc ?_ _ | refine pw_below_drewN ?_ _ | refine below_drew1 ?_)) hb⟩; clear HB; have HB := nb; clear nb; have hz0 : w'.cell? ⟨w.heap.size + 1, 0, none⟩ = some (.int .i64 0) := kept hb (by first | assumption | simp); have hf0 : w'.frozen? ⟨w.heap.size + 1, 0, none⟩ = false := keptF hb (.int .i64 0) (by first | assumption | simp) (by first | assumption | simp); have hz1 : w'.cell? ⟨w.heap.size + 1, 1, none⟩ = some (.int .i64 0) := kept hb (by first | assumption | simp); have hf1 : w'.frozen? ⟨w.heap.size + 1, 1, none⟩ = false := keptF hb (.int .i64 0) (by first | assumption | simp) (by first | assumption | simp); have hz2 : w'.cell? ⟨w.heap.size + 1, 2, none⟩ = some (.int .i64 0) := kept hb (by first | assumption | simp); have hf2 : w'.frozen? ⟨w.heap.size + 1, 2, none⟩ = false := keptF hb (.int .i64 0) (by first | assumption | simp) (by first | assumption | simp); have hz3 : w'.cell? ⟨w.heap.size + 1, 3, none⟩ = some (.int .i64 0) := kept hb (by first | assumption | simp); have hf3 : w'.frozen? ⟨w.heap.size + 1, 3, none⟩ = false := keptF hb (.int .i64 0) (by first | assumption | simp) (by first | assumption | simp)))
  go_wp2
  refine bodyPost_ret (v := .agg #[.int .i64 (lim (0 + n)), .int .i64 (lim (c + n)), .int .i64 (lim (x + n)), .int .i64 A]) (by simp [results, Try.results42, go_sem, hz0, hz1, hz2, hz3]) rfl ⟨rfl, ?_⟩
  repeat (first | exact HB.out | exact Nat.le_succ _ | refine below_set ?_ (Nat.le_succ _) | refine pw_below_drewN ?_ _ | refine below_drew1 ?_)

set_option maxRecDepth 100000 in
set_option maxHeartbeats 3200000 in
theorem fromHsl_2n (h0 h1 h2 al A y s l c f x n : Int) (w : World) (hA : lim al = A) (qA : (A == 0) = false) (hy : h0.tmod 65536 = y) (qy : y < 0) (yb : -65536 < y) (yb2 : y < 65536) (hs : lim h1 = s) (hl : lim h2 = l)
    (hc : chromaV s l = c) (hq : (6 * (y + 65536)).tdiv 65536 = 2) (q0 : 131072 ≤ 6 * (y + 65536)) (q1 : 6 * (y + 65536) < 196608) (hf : 6 * (y + 65536) - 131072 = f) (hx : rdiv (c * f) 65536 = x) (hn : rdiv (2 * l - c) 2 = n) :
    Calls Try.prog 42 #[.agg #[.int .i64 h0, .int .i64 h1, .int .i64 h2], .int .i64 al] w fun e w' => e = .returned (.agg #[.int .i64 (lim (0 + n)), .int .i64 (lim (c + n)), .int .i64 (lim (x + n)), .int .i64 A]) ∧ Below w.heap.size w w' := by
  have _ := And.intro yb2 (And.intro q0 q1)
  obtain ⟨s0, s1⟩ := lim_range h1
  obtain ⟨l0, l1⟩ := lim_range h2
  rw [hs] at s0 s1
  rw [hl] at l0 l1
  obtain ⟨v0, v1, c0, c1, c2⟩ := chroma_range s l s0 s1 l0 l1
  rw [hc] at c0 c1 c2
  obtain ⟨w0, w1, w2, w3⟩ := wide_range l l0 l1
  unfold chromaV at hc
  obtain ⟨E, hE⟩ : ∃ z, (if 2 * l - 65535 < -(2 * l - 65535) then -(2 * l - 65535) else 2 * l - 65535) = z := ⟨_, rfl⟩
  have hW : wide (2 * l - 65535) = 65535 - E := by unfold wide mx; rw [hE]
  rw [hW] at hc v0 v1 w0 w1 w2 w3 c2
  obtain ⟨p0, p1, x0, x1⟩ := part_range c f c0 c1 (by omega) (by omega)
  rw [hx] at x0 x1
  have n0 : 0 ≤ n ∧ n ≤ 65535 := by
    rw [← hn]
    exact rdiv_between _ 2 0 65535 (by omega) (by omega) (by omega)
  obtain ⟨n0, n1⟩ := n0
  have HA : Aside0 (∀ w, Qt 65 #[.int .i64 al] w (.int .i64 A)) := ⟨fun w => by rw [← hA]; exact limQ al w⟩
  have HS : Aside0 (∀ w, Qt 65 #[.int .i64 h1] w (.int .i64 s)) := ⟨fun w => by rw [← hs]; exact limQ h1 w⟩
  have HLL : Aside0 (∀ w, Qt 65 #[.int .i64 h2] w (.int .i64 l)) := ⟨fun w => by rw [← hl]; exact limQ h2 w⟩
  have H1 : Aside0 (∀ w, Qt 60 #[.int .i64 ((65535 - E) * s), .int .i64 65535] w (.int .i64 c)) := ⟨fun w => by rw [← hc]; exact divQ _ 65535 w (by omega) (by omega) (by omega) (by omega)⟩
  have H2 : Aside0 (∀ w, Qt 60 #[.int .i64 (c * f), .int .i64 65536] w (.int .i64 x)) := ⟨fun w => by rw [← hx]; exact divQ _ 65536 w (by omega) (by omega) (by omega) (by omega)⟩
  have H3 : Aside0 (∀ w, Qt 60 #[.int .i64 (2 * l - c), .int .i64 2] w (.int .i64 n)) := ⟨fun w => by rw [← hn]; exact divQ _ 2 w (by omega) (by omega) (by omega) (by omega)⟩
  have HF : Aside0 (∀ x w, Calls Try.prog 65 #[.int .i64 x] w fun e w' => e = .returned (.int .i64 (lim x)) ∧ Below w.heap.size w w') := ⟨fun x w => limit_any x w⟩
  clear hA hs hl hc hx hn hW
  have e1 := wi (6 * (y + 65536)) (by omega) (by omega)
  have e2 := wi (2 * l) (by omega) (by omega)
  have e3 := wi (2 * l - 65535) (by omega) (by omega)
  have e4 := wi ((65535 - E) * s) (by omega) (by omega)
  have e5 := wi (65535 - E) (by omega) (by omega)
  have e6 := wi (c * f) (by omega) (by omega)
  have e7 := wi (2 * l - c) (by omega) (by omega)
  have e8 := wi (c + n) (by omega) (by omega)
  have e9 := wi (x + n) (by omega) (by omega)
  have e10 := wi n (by omega) (by omega)
  have HB := Aside0.mk (Below.refl w.heap.size w)
  go_enter Try.func42, Try.ntmps42
  go_wp2_with fail
  refine (HA.out _).mono ?_
  rintro e w1 ⟨rfl, m1, rfl⟩
  dsimp only
  go_wp2_with fail
  go_quiet (first | (go_at_call 65; with_reducible first | exact Qt.at (HS.out _) | exact Qt.at2 (HS.out _) | exact Qt.at (HLL.out _) | exact Qt.at2 (HLL.out _)))
  clear HA HS HLL
  go_wp2_with fail
  refine (H1.out _).mono ?_
  rintro e w2 ⟨rfl, m2, rfl⟩
  dsimp only
  go_wp2_with fail
  refine (H2.out _).mono ?_
  rintro e w3 ⟨rfl, m3, rfl⟩
  dsimp only
  go_wp2_with fail
  refine (H3.out _).mono ?_
  rintro e w4 ⟨rfl, m4, rfl⟩
  dsimp only
  clear H1 H2 H3
  go_wp2_with fail
  clear hE e1 e2 e3 e4 e5 e6 e7 hy qy qA hq hf
  generalize hWW : World.alloc (World.drewN (World.alloc (World.alloc w _) _) _) _ = W
  have k0 : W.cell? ⟨w.heap.size + 2, 0, none⟩ = some (Value.int .i64 0) := by rw [← hWW]; simp [go_sem]
  have k1 : W.cell? ⟨w.heap.size + 2, 1, none⟩ = some (Value.int .i64 c) := by rw [← hWW]; simp [go_sem]
  have k2 : W.cell? ⟨w.heap.size + 2, 2, none⟩ = some (Value.int .i64 x) := by rw [← hWW]; simp [go_sem]
  have j0 : W.cell? ⟨w.heap.size + 1, 0, none⟩ = some (.int .i64 0) := by rw [← hWW]; simp [go_sem]
  have j1 : W.cell? ⟨w.heap.size + 1, 1, none⟩ = some (.int .i64 0) := by rw [← hWW]; simp [go_sem]
  have j2 : W.cell? ⟨w.heap.size + 1, 2, none⟩ = some (.int .i64 0) := by rw [← hWW]; simp [go_sem]
  have j3 : W.cell? ⟨w.heap.size + 1, 3, none⟩ = some (.int .i64 0) := by rw [← hWW]; simp [go_sem]
  have i0 : W.frozen? ⟨w.heap.size + 1, 0, none⟩ = false := by rw [← hWW]; simp [go_sem]
  have i1 : W.frozen? ⟨w.heap.size + 1, 1, none⟩ = false := by rw [← hWW]; simp [go_sem]
  have i2 : W.frozen? ⟨w.heap.size + 1, 2, none⟩ = false := by rw [← hWW]; simp [go_sem]
  have i3 : W.frozen? ⟨w.heap.size + 1, 3, none⟩ = false := by rw [← hWW]; simp [go_sem]
  have HBW : Aside0 (Below w.heap.size w W) := ⟨by
    rw [← hWW]
    repeat (first | exact HB.out | refine below_alloc ?_ _ | refine pw_below_drewN ?_ _ | refine below_drew1 ?_)⟩
  clear HB hWW
  have HB := HBW
  clear HBW
  go_region_held3 (fun w' => w'.cell? ⟨w.heap.size + 2, 0, none⟩ = some (Value.int .i64 0) ∧ w'.cell? ⟨w.heap.size + 2, 1, none⟩ = some (Value.int .i64 c) ∧ w'.cell? ⟨w.heap.size + 2, 2, none⟩ = some (Value.int .i64 x))
    (first | go_keep | exact ⟨kept hb (by assumption), kept hb (by assumption), kept hb (by assumption)⟩ | (go_split_ands; exact ⟨kept hb (by assumption), kept hb (by assumption), kept hb (by assumption)⟩))
    ((go_at_call 65; refine (HF.out _ _).mono ?_; rintro e w' ⟨rfl, hb⟩; have nb : Aside0 (Below w.heap.size w w') := ⟨step (by repeat (first | exact HB.out | refine below_alloc ?_ _ | refine pw_below_drewN ?_ _ | refine below_drew1 ?_)) hb⟩; clear HB; have HB := nb; clear nb; have hz0 : w'.cell? ⟨w.heap.size + 1, 0, none⟩ = some (.int .i64 0) := kept hb (by first | assumption | simp); have hf0 : w'.frozen? ⟨w.heap.size + 1, 0, none⟩ = false := keptF hb (.int .i64 0) (by first | assumption | simp) (by first | assumption | simp); have hz1 : w'.cell? ⟨w.heap.size + 1, 1, none⟩ = some (.int .i64 0) := kept hb (by first | assumption | simp); have hf1 : w'.frozen? ⟨w.heap.size + 1, 1, none⟩ = false := keptF hb (.int .i64 0) (by first | assumption | simp) (by first | assumption | simp); have hz2 : w'.cell? ⟨w.heap.size + 1, 2, none⟩ = some (.int .i64 0) := kept hb (by first | assumption | simp); have hf2 : w'.frozen? ⟨w.heap.size + 1, 2, none⟩ = false := keptF hb (.int .i64 0) (by first | assumption | simp) (by first | assumption | simp); have hz3 : w'.cell? ⟨w.heap.size + 1, 3, none⟩ = some (.int .i64 0) := kept hb (by first | assumption | simp); have hf3 : w'.frozen? ⟨w.heap.size + 1, 3, none⟩ = false := keptF hb (.int .i64 0) (by first | assumption | simp) (by first | assumption | simp)))
  go_wp2
  refine bodyPost_ret (v := .agg #[.int .i64 (lim (0 + n)), .int .i64 (lim (c + n)), .int .i64 (lim (x + n)), .int .i64 A]) (by simp [results, Try.results42, go_sem, hz0, hz1, hz2, hz3]) rfl ⟨rfl, ?_⟩
  repeat (first | exact HB.out | exact Nat.le_succ _ | refine below_set ?_ (Nat.le_succ _) | refine pw_below_drewN ?_ _ | refine below_drew1 ?_)

set_option maxRecDepth 100000 in
set_option maxHeartbeats 3200000 in
theorem fromHsl_3 (h0 h1 h2 al A y s l c f x n : Int) (w : World) (hA : lim al = A) (qA : (A == 0) = false) (hy : h0.tmod 65536 = y) (qy : ¬ y < 0) (yb : -65536 < y) (yb2 : y < 65536) (hs : lim h1 = s) (hl : lim h2 = l)
    (hc : chromaV s l = c) (hq : (6 * y).tdiv 65536 = 3) (q0 : 196608 ≤ 6 * y) (q1 : 6 * y < 262144) (hf : 65536 - (6 * y - 196608) = f) (hx : rdiv (c * f) 65536 = x) (hn : rdiv (2 * l - c) 2 = n) :
    Calls Try.prog 42 #[.agg #[.int .i64 h0, .int .i64 h1, .int .i64 h2], .int .i64 al] w fun e w' => e = .returned (.agg #[.int .i64 (lim (0 + n)), .int .i64 (lim (x + n)), .int .i64 (lim (c + n)), .int .i64 A]) ∧ Below w.heap.size w w' := by
  have _ := And.intro yb2 (And.intro q0 q1)
  obtain ⟨s0, s1⟩ := lim_range h1
  obtain ⟨l0, l1⟩ := lim_range h2
  rw [hs] at s0 s1
  rw [hl] at l0 l1
  obtain ⟨v0, v1, c0, c1, c2⟩ := chroma_range s l s0 s1 l0 l1
  rw [hc] at c0 c1 c2
  obtain ⟨w0, w1, w2, w3⟩ := wide_range l l0 l1
  unfold chromaV at hc
  obtain ⟨E, hE⟩ : ∃ z, (if 2 * l - 65535 < -(2 * l - 65535) then -(2 * l - 65535) else 2 * l - 65535) = z := ⟨_, rfl⟩
  have hW : wide (2 * l - 65535) = 65535 - E := by unfold wide mx; rw [hE]
  rw [hW] at hc v0 v1 w0 w1 w2 w3 c2
  obtain ⟨p0, p1, x0, x1⟩ := part_range c f c0 c1 (by omega) (by omega)
  rw [hx] at x0 x1
  have n0 : 0 ≤ n ∧ n ≤ 65535 := by
    rw [← hn]
    exact rdiv_between _ 2 0 65535 (by omega) (by omega) (by omega)
  obtain ⟨n0, n1⟩ := n0
  have HA : Aside0 (∀ w, Qt 65 #[.int .i64 al] w (.int .i64 A)) := ⟨fun w => by rw [← hA]; exact limQ al w⟩
  have HS : Aside0 (∀ w, Qt 65 #[.int .i64 h1] w (.int .i64 s)) := ⟨fun w => by rw [← hs]; exact limQ h1 w⟩
  have HLL : Aside0 (∀ w, Qt 65 #[.int .i64 h2] w (.int .i64 l)) := ⟨fun w => by rw [← hl]; exact limQ h2 w⟩
  have H1 : Aside0 (∀ w, Qt 60 #[.int .i64 ((65535 - E) * s), .int .i64 65535] w (.int .i64 c)) := ⟨fun w => by rw [← hc]; exact divQ _ 65535 w (by omega) (by omega) (by omega) (by omega)⟩
  have H2 : Aside0 (∀ w, Qt 60 #[.int .i64 (c * f), .int .i64 65536] w (.int .i64 x)) := ⟨fun w => by rw [← hx]; exact divQ _ 65536 w (by omega) (by omega) (by omega) (by omega)⟩
  have H3 : Aside0 (∀ w, Qt 60 #[.int .i64 (2 * l - c), .int .i64 2] w (.int .i64 n)) := ⟨fun w => by rw [← hn]; exact divQ _ 2 w (by omega) (by omega) (by omega) (by omega)⟩
  have HF : Aside0 (∀ x w, Calls Try.prog 65 #[.int .i64 x] w fun e w' => e = .returned (.int .i64 (lim x)) ∧ Below w.heap.size w w') := ⟨fun x w => limit_any x w⟩
  clear hA hs hl hc hx hn hW
  have e1 := wi (6 * y) (by omega) (by omega)
  have e2 := wi (2 * l) (by omega) (by omega)
  have e3 := wi (2 * l - 65535) (by omega) (by omega)
  have e4 := wi ((65535 - E) * s) (by omega) (by omega)
  have e5 := wi (65535 - E) (by omega) (by omega)
  have e6 := wi (c * f) (by omega) (by omega)
  have e7 := wi (2 * l - c) (by omega) (by omega)
  have e8 := wi (c + n) (by omega) (by omega)
  have e9 := wi (x + n) (by omega) (by omega)
  have e10 := wi n (by omega) (by omega)
  have HB := Aside0.mk (Below.refl w.heap.size w)
  go_enter Try.func42, Try.ntmps42
  go_wp2_with fail
  refine (HA.out _).mono ?_
  rintro e w1 ⟨rfl, m1, rfl⟩
  dsimp only
  go_wp2_with fail
  go_quiet (first | (go_at_call 65; with_reducible first | exact Qt.at (HS.out _) | exact Qt.at2 (HS.out _) | exact Qt.at (HLL.out _) | exact Qt.at2 (HLL.out _)))
  clear HA HS HLL
  go_wp2_with fail
  refine (H1.out _).mono ?_
  rintro e w2 ⟨rfl, m2, rfl⟩
  dsimp only
  go_wp2_with fail
  refine (H2.out _).mono ?_
  rintro e w3 ⟨rfl, m3, rfl⟩
  dsimp only
  go_wp2_with fail
  refine (H3.out _).mono ?_
  rintro e w4 ⟨rfl, m4, rfl⟩
  dsimp only
  clear H1 H2 H3
  go_wp2_with fail
  clear hE e1 e2 e3 e4 e5 e6 e7 hy qy qA hq hf
  generalize hWW : World.alloc (World.drewN (World.alloc (World.alloc w _) _) _) _ = W
  have k0 : W.cell? ⟨w.heap.size + 2, 0, none⟩ = some (Value.int .i64 0) := by rw [← hWW]; simp [go_sem]
  have k1 : W.cell? ⟨w.heap.size + 2, 1, none⟩ = some (Value.int .i64 x) := by rw [← hWW]; simp [go_sem]
  have k2 : W.cell? ⟨w.heap.size + 2, 2, none⟩ = some (Value.int .i64 c) := by rw [← hWW]; simp [go_sem]
  have j0 : W.cell? ⟨w.heap.size + 1, 0, none⟩ = some (.int .i64 0) := by rw [← hWW]; simp [go_sem]
  have j1 : W.cell? ⟨w.heap.size + 1, 1, none⟩ = some (.int .i64 0) := by rw [← hWW]; simp [go_sem]
  have j2 : W.cell? ⟨w.heap.size + 1, 2, none⟩ = some (.int .i64 0) := by rw [← hWW]; simp [go_sem]
  have j3 : W.cell? ⟨w.heap.size + 1, 3, none⟩ = some (.int .i64 0) := by rw [← hWW]; simp [go_sem]
  have i0 : W.frozen? ⟨w.heap.size + 1, 0, none⟩ = false := by rw [← hWW]; simp [go_sem]
  have i1 : W.frozen? ⟨w.heap.size + 1, 1, none⟩ = false := by rw [← hWW]; simp [go_sem]
  have i2 : W.frozen? ⟨w.heap.size + 1, 2, none⟩ = false := by rw [← hWW]; simp [go_sem]
  have i3 : W.frozen? ⟨w.heap.size + 1, 3, none⟩ = false := by rw [← hWW]; simp [go_sem]
  have HBW : Aside0 (Below w.heap.size w W) := ⟨by
    rw [← hWW]
    repeat (first | exact HB.out | refine below_alloc ?_ _ | refine pw_below_drewN ?_ _ | refine below_drew1 ?_)⟩
  clear HB hWW
  have HB := HBW
  clear HBW
  go_region_held3 (fun w' => w'.cell? ⟨w.heap.size + 2, 0, none⟩ = some (Value.int .i64 0) ∧ w'.cell? ⟨w.heap.size + 2, 1, none⟩ = some (Value.int .i64 x) ∧ w'.cell? ⟨w.heap.size + 2, 2, none⟩ = some (Value.int .i64 c))
    (first | go_keep | exact ⟨kept hb (by assumption), kept hb (by assumption), kept hb (by assumption)⟩ | (go_split_ands; exact ⟨kept hb (by assumption), kept hb (by assumption), kept hb (by assumption)⟩))
    ((go_at_call 65; refine (HF.out _ _).mono ?_; rintro e w' ⟨rfl, hb⟩; have nb : Aside0 (Below w.heap.size w w') := ⟨step (by repeat (first | exact HB.out | refine below_alloc ?_ _ | refine pw_below_drewN ?_ _ | refine below_drew1 ?_)) hb⟩; clear HB; have HB := nb; clear nb; have hz0 : w'.cell? ⟨w.heap.size + 1, 0, none⟩ = some (.int .i64 0) := kept hb (by first | assumption | simp); have hf0 : w'.frozen? ⟨w.heap.size + 1, 0, none⟩ = false := keptF hb (.int .i64 0) (by first | assumption | simp) (by first | assumption | simp); have hz1 : w'.cell? ⟨w.heap.size + 1, 1, none⟩ = some (.int .i64 0) := kept hb (by first | assumption | simp); have hf1 : w'.frozen? ⟨w.heap.size + 1, 1, none⟩ = false := keptF hb (.int .i64 0) (by first | assumption | simp) (by first | assumption | simp); have hz2 : w'.cell? ⟨w.heap.size + 1, 2, none⟩ = some (.int .i64 0) := kept hb (by first | assumption | simp); have hf2 : w'.frozen? ⟨w.heap.size + 1, 2, none⟩ = false := keptF hb (.int .i64 0) (by first | assumption | simp) (by first | assumption | simp); have hz3 : w'.cell? ⟨w.heap.size + 1, 3, none⟩ = some (.int .i64 0) := kept hb (by first | assumption | simp); have hf3 : w'.frozen? ⟨w.heap.size + 1, 3, none⟩ = false := keptF hb (.int .i64 0) (by first | assumption | simp) (by first | assumption | simp)))
  go_wp2
  refine bodyPost_ret (v := .agg #[.int .i64 (lim (0 + n)), .int .i64 (lim (x + n)), .int .i64 (lim (c + n)), .int .i64 A]) (by simp [results, Try.results42, go_sem, hz0, hz1, hz2, hz3]) rfl ⟨rfl, ?_⟩
  repeat (first | exact HB.out | exact Nat.le_succ _ | refine below_set ?_ (Nat.le_succ _) | refine pw_below_drewN ?_ _ | refine below_drew1 ?_)

set_option maxRecDepth 100000 in
set_option maxHeartbeats 3200000 in
theorem fromHsl_3n (h0 h1 h2 al A y s l c f x n : Int) (w : World) (hA : lim al = A) (qA : (A == 0) = false) (hy : h0.tmod 65536 = y) (qy : y < 0) (yb : -65536 < y) (yb2 : y < 65536) (hs : lim h1 = s) (hl : lim h2 = l)
    (hc : chromaV s l = c) (hq : (6 * (y + 65536)).tdiv 65536 = 3) (q0 : 196608 ≤ 6 * (y + 65536)) (q1 : 6 * (y + 65536) < 262144) (hf : 65536 - (6 * (y + 65536) - 196608) = f) (hx : rdiv (c * f) 65536 = x) (hn : rdiv (2 * l - c) 2 = n) :
    Calls Try.prog 42 #[.agg #[.int .i64 h0, .int .i64 h1, .int .i64 h2], .int .i64 al] w fun e w' => e = .returned (.agg #[.int .i64 (lim (0 + n)), .int .i64 (lim (x + n)), .int .i64 (lim (c + n)), .int .i64 A]) ∧ Below w.heap.size w w' := by
  have _ := And.intro yb2 (And.intro q0 q1)
  obtain ⟨s0, s1⟩ := lim_range h1
  obtain ⟨l0, l1⟩ := lim_range h2
  rw [hs] at s0 s1
  rw [hl] at l0 l1
  obtain ⟨v0, v1, c0, c1, c2⟩ := chroma_range s l s0 s1 l0 l1
  rw [hc] at c0 c1 c2
  obtain ⟨w0, w1, w2, w3⟩ := wide_range l l0 l1
  unfold chromaV at hc
  obtain ⟨E, hE⟩ : ∃ z, (if 2 * l - 65535 < -(2 * l - 65535) then -(2 * l - 65535) else 2 * l - 65535) = z := ⟨_, rfl⟩
  have hW : wide (2 * l - 65535) = 65535 - E := by unfold wide mx; rw [hE]
  rw [hW] at hc v0 v1 w0 w1 w2 w3 c2
  obtain ⟨p0, p1, x0, x1⟩ := part_range c f c0 c1 (by omega) (by omega)
  rw [hx] at x0 x1
  have n0 : 0 ≤ n ∧ n ≤ 65535 := by
    rw [← hn]
    exact rdiv_between _ 2 0 65535 (by omega) (by omega) (by omega)
  obtain ⟨n0, n1⟩ := n0
  have HA : Aside0 (∀ w, Qt 65 #[.int .i64 al] w (.int .i64 A)) := ⟨fun w => by rw [← hA]; exact limQ al w⟩
  have HS : Aside0 (∀ w, Qt 65 #[.int .i64 h1] w (.int .i64 s)) := ⟨fun w => by rw [← hs]; exact limQ h1 w⟩
  have HLL : Aside0 (∀ w, Qt 65 #[.int .i64 h2] w (.int .i64 l)) := ⟨fun w => by rw [← hl]; exact limQ h2 w⟩
  have H1 : Aside0 (∀ w, Qt 60 #[.int .i64 ((65535 - E) * s), .int .i64 65535] w (.int .i64 c)) := ⟨fun w => by rw [← hc]; exact divQ _ 65535 w (by omega) (by omega) (by omega) (by omega)⟩
  have H2 : Aside0 (∀ w, Qt 60 #[.int .i64 (c * f), .int .i64 65536] w (.int .i64 x)) := ⟨fun w => by rw [← hx]; exact divQ _ 65536 w (by omega) (by omega) (by omega) (by omega)⟩
  have H3 : Aside0 (∀ w, Qt 60 #[.int .i64 (2 * l - c), .int .i64 2] w (.int .i64 n)) := ⟨fun w => by rw [← hn]; exact divQ _ 2 w (by omega) (by omega) (by omega) (by omega)⟩
  have HF : Aside0 (∀ x w, Calls Try.prog 65 #[.int .i64 x] w fun e w' => e = .returned (.int .i64 (lim x)) ∧ Below w.heap.size w w') := ⟨fun x w => limit_any x w⟩
  clear hA hs hl hc hx hn hW
  have e1 := wi (6 * (y + 65536)) (by omega) (by omega)
  have e2 := wi (2 * l) (by omega) (by omega)
  have e3 := wi (2 * l - 65535) (by omega) (by omega)
  have e4 := wi ((65535 - E) * s) (by omega) (by omega)
  have e5 := wi (65535 - E) (by omega) (by omega)
  have e6 := wi (c * f) (by omega) (by omega)
  have e7 := wi (2 * l - c) (by omega) (by omega)
  have e8 := wi (c + n) (by omega) (by omega)
  have e9 := wi (x + n) (by omega) (by omega)
  have e10 := wi n (by omega) (by omega)
  have HB := Aside0.mk (Below.refl w.heap.size w)
  go_enter Try.func42, Try.ntmps42
  go_wp2_with fail
  refine (HA.out _).mono ?_
  rintro e w1 ⟨rfl, m1, rfl⟩
  dsimp only
  go_wp2_with fail
  go_quiet (first | (go_at_call 65; with_reducible first | exact Qt.at (HS.out _) | exact Qt.at2 (HS.out _) | exact Qt.at (HLL.out _) | exact Qt.at2 (HLL.out _)))
  clear HA HS HLL
  go_wp2_with fail
  refine (H1.out _).mono ?_
  rintro e w2 ⟨rfl, m2, rfl⟩
  dsimp only
  go_wp2_with fail
  refine (H2.out _).mono ?_
  rintro e w3 ⟨rfl, m3, rfl⟩
  dsimp only
  go_wp2_with fail
  refine (H3.out _).mono ?_
  rintro e w4 ⟨rfl, m4, rfl⟩
  dsimp only
  clear H1 H2 H3
  go_wp2_with fail
  clear hE e1 e2 e3 e4 e5 e6 e7 hy qy qA hq hf
  generalize hWW : World.alloc (World.drewN (World.alloc (World.alloc w _) _) _) _ = W
  have k0 : W.cell? ⟨w.heap.size + 2, 0, none⟩ = some (Value.int .i64 0) := by rw [← hWW]; simp [go_sem]
  have k1 : W.cell? ⟨w.heap.size + 2, 1, none⟩ = some (Value.int .i64 x) := by rw [← hWW]; simp [go_sem]
  have k2 : W.cell? ⟨w.heap.size + 2, 2, none⟩ = some (Value.int .i64 c) := by rw [← hWW]; simp [go_sem]
  have j0 : W.cell? ⟨w.heap.size + 1, 0, none⟩ = some (.int .i64 0) := by rw [← hWW]; simp [go_sem]
  have j1 : W.cell? ⟨w.heap.size + 1, 1, none⟩ = some (.int .i64 0) := by rw [← hWW]; simp [go_sem]
  have j2 : W.cell? ⟨w.heap.size + 1, 2, none⟩ = some (.int .i64 0) := by rw [← hWW]; simp [go_sem]
  have j3 : W.cell? ⟨w.heap.size + 1, 3, none⟩ = some (.int .i64 0) := by rw [← hWW]; simp [go_sem]
  have i0 : W.frozen? ⟨w.heap.size + 1, 0, none⟩ = false := by rw [← hWW]; simp [go_sem]
  have i1 : W.frozen? ⟨w.heap.size + 1, 1, none⟩ = false := by rw [← hWW]; simp [go_sem]
  have i2 : W.frozen? ⟨w.heap.size + 1, 2, none⟩ = false := by rw [← hWW]; simp [go_sem]
  have i3 : W.frozen? ⟨w.heap.size + 1, 3, none⟩ = false := by rw [← hWW]; simp [go_sem]
  have HBW : Aside0 (Below w.heap.size w W) := ⟨by
    rw [← hWW]
    repeat (first | exact HB.out | refine below_alloc ?_ _ | refine pw_below_drewN ?_ _ | refine below_drew1 ?_)⟩
  clear HB hWW
  have HB := HBW
  clear HBW
  go_region_held3 (fun w' => w'.cell? ⟨w.heap.size + 2, 0, none⟩ = some (Value.int .i64 0) ∧ w'.cell? ⟨w.heap.size + 2, 1, none⟩ = some (Value.int .i64 x) ∧ w'.cell? ⟨w.heap.size + 2, 2, none⟩ = some (Value.int .i64 c))
    (first | go_keep | exact ⟨kept hb (by assumption), kept hb (by assumption), kept hb (by assumption)⟩ | (go_split_ands; exact ⟨kept hb (by assumption), kept hb (by assumption), kept hb (by assumption)⟩))
    ((go_at_call 65; refine (HF.out _ _).mono ?_; rintro e w' ⟨rfl, hb⟩; have nb : Aside0 (Below w.heap.size w w') := ⟨step (by repeat (first | exact HB.out | refine below_alloc ?_ _ | refine pw_below_drewN ?_ _ | refine below_drew1 ?_)) hb⟩; clear HB; have HB := nb; clear nb; have hz0 : w'.cell? ⟨w.heap.size + 1, 0, none⟩ = some (.int .i64 0) := kept hb (by first | assumption | simp); have hf0 : w'.frozen? ⟨w.heap.size + 1, 0, none⟩ = false := keptF hb (.int .i64 0) (by first | assumption | simp) (by first | assumption | simp); have hz1 : w'.cell? ⟨w.heap.size + 1, 1, none⟩ = some (.int .i64 0) := kept hb (by first | assumption | simp); have hf1 : w'.frozen? ⟨w.heap.size + 1, 1, none⟩ = false := keptF hb (.int .i64 0) (by first | assumption | simp) (by first | assumption | simp); have hz2 : w'.cell? ⟨w.heap.size + 1, 2, none⟩ = some (.int .i64 0) := kept hb (by first | assumption | simp); have hf2 : w'.frozen? ⟨w.heap.size + 1, 2, none⟩ = false := keptF hb (.int .i64 0) (by first | assumption | simp) (by first | assumption | simp); have hz3 : w'.cell? ⟨w.heap.size + 1, 3, none⟩ = some (.int .i64 0) := kept hb (by first | assumption | simp); have hf3 : w'.frozen? ⟨w.heap.size + 1, 3, none⟩ = false := keptF hb (.int .i64 0) (by first | assumption | simp) (by first | assumption | simp)))
  go_wp2
  refine bodyPost_ret (v := .agg #[.int .i64 (lim (0 + n)), .int .i64 (lim (x + n)), .int .i64 (lim (c + n)), .int .i64 A]) (by simp [results, Try.results42, go_sem, hz0, hz1, hz2, hz3]) rfl ⟨rfl, ?_⟩
  repeat (first | exact HB.out | exact Nat.le_succ _ | refine below_set ?_ (Nat.le_succ _) | refine pw_below_drewN ?_ _ | refine below_drew1 ?_)

set_option maxRecDepth 100000 in
set_option maxHeartbeats 3200000 in
theorem fromHsl_4 (h0 h1 h2 al A y s l c f x n : Int) (w : World) (hA : lim al = A) (qA : (A == 0) = false) (hy : h0.tmod 65536 = y) (qy : ¬ y < 0) (yb : -65536 < y) (yb2 : y < 65536) (hs : lim h1 = s) (hl : lim h2 = l)
    (hc : chromaV s l = c) (hq : (6 * y).tdiv 65536 = 4) (q0 : 262144 ≤ 6 * y) (q1 : 6 * y < 327680) (hf : 6 * y - 262144 = f) (hx : rdiv (c * f) 65536 = x) (hn : rdiv (2 * l - c) 2 = n) :
    Calls Try.prog 42 #[.agg #[.int .i64 h0, .int .i64 h1, .int .i64 h2], .int .i64 al] w fun e w' => e = .returned (.agg #[.int .i64 (lim (x + n)), .int .i64 (lim (0 + n)), .int .i64 (lim (c + n)), .int .i64 A]) ∧ Below w.heap.size w w' := by
  have _ := And.intro yb2 (And.intro q0 q1)
  obtain ⟨s0, s1⟩ := lim_range h1
  obtain ⟨l0, l1⟩ := lim_range h2
  rw [hs] at s0 s1
  rw [hl] at l0 l1
  obtain ⟨v0, v1, c0, c1, c2⟩ := chroma_range s l s0 s1 l0 l1
  rw [hc] at c0 c1 c2
  obtain ⟨w0, w1, w2, w3⟩ := wide_range l l0 l1
  unfold chromaV at hc
  obtain ⟨E, hE⟩ : ∃ z, (if 2 * l - 65535 < -(2 * l - 65535) then -(2 * l - 65535) else 2 * l - 65535) = z := ⟨_, rfl⟩
  have hW : wide (2 * l - 65535) = 65535 - E := by unfold wide mx; rw [hE]
  rw [hW] at hc v0 v1 w0 w1 w2 w3 c2
  obtain ⟨p0, p1, x0, x1⟩ := part_range c f c0 c1 (by omega) (by omega)
  rw [hx] at x0 x1
  have n0 : 0 ≤ n ∧ n ≤ 65535 := by
    rw [← hn]
    exact rdiv_between _ 2 0 65535 (by omega) (by omega) (by omega)
  obtain ⟨n0, n1⟩ := n0
  have HA : Aside0 (∀ w, Qt 65 #[.int .i64 al] w (.int .i64 A)) := ⟨fun w => by rw [← hA]; exact limQ al w⟩
  have HS : Aside0 (∀ w, Qt 65 #[.int .i64 h1] w (.int .i64 s)) := ⟨fun w => by rw [← hs]; exact limQ h1 w⟩
  have HLL : Aside0 (∀ w, Qt 65 #[.int .i64 h2] w (.int .i64 l)) := ⟨fun w => by rw [← hl]; exact limQ h2 w⟩
  have H1 : Aside0 (∀ w, Qt 60 #[.int .i64 ((65535 - E) * s), .int .i64 65535] w (.int .i64 c)) := ⟨fun w => by rw [← hc]; exact divQ _ 65535 w (by omega) (by omega) (by omega) (by omega)⟩
  have H2 : Aside0 (∀ w, Qt 60 #[.int .i64 (c * f), .int .i64 65536] w (.int .i64 x)) := ⟨fun w => by rw [← hx]; exact divQ _ 65536 w (by omega) (by omega) (by omega) (by omega)⟩
  have H3 : Aside0 (∀ w, Qt 60 #[.int .i64 (2 * l - c), .int .i64 2] w (.int .i64 n)) := ⟨fun w => by rw [← hn]; exact divQ _ 2 w (by omega) (by omega) (by omega) (by omega)⟩
  have HF : Aside0 (∀ x w, Calls Try.prog 65 #[.int .i64 x] w fun e w' => e = .returned (.int .i64 (lim x)) ∧ Below w.heap.size w w') := ⟨fun x w => limit_any x w⟩
  clear hA hs hl hc hx hn hW
  have e1 := wi (6 * y) (by omega) (by omega)
  have e2 := wi (2 * l) (by omega) (by omega)
  have e3 := wi (2 * l - 65535) (by omega) (by omega)
  have e4 := wi ((65535 - E) * s) (by omega) (by omega)
  have e5 := wi (65535 - E) (by omega) (by omega)
  have e6 := wi (c * f) (by omega) (by omega)
  have e7 := wi (2 * l - c) (by omega) (by omega)
  have e8 := wi (c + n) (by omega) (by omega)
  have e9 := wi (x + n) (by omega) (by omega)
  have e10 := wi n (by omega) (by omega)
  have HB := Aside0.mk (Below.refl w.heap.size w)
  go_enter Try.func42, Try.ntmps42
  go_wp2_with fail
  refine (HA.out _).mono ?_
  rintro e w1 ⟨rfl, m1, rfl⟩
  dsimp only
  go_wp2_with fail
  go_quiet (first | (go_at_call 65; with_reducible first | exact Qt.at (HS.out _) | exact Qt.at2 (HS.out _) | exact Qt.at (HLL.out _) | exact Qt.at2 (HLL.out _)))
  clear HA HS HLL
  go_wp2_with fail
  refine (H1.out _).mono ?_
  rintro e w2 ⟨rfl, m2, rfl⟩
  dsimp only
  go_wp2_with fail
  refine (H2.out _).mono ?_
  rintro e w3 ⟨rfl, m3, rfl⟩
  dsimp only
  go_wp2_with fail
  refine (H3.out _).mono ?_
  rintro e w4 ⟨rfl, m4, rfl⟩
  dsimp only
  clear H1 H2 H3
  go_wp2_with fail
  clear hE e1 e2 e3 e4 e5 e6 e7 hy qy qA hq hf
  generalize hWW : World.alloc (World.drewN (World.alloc (World.alloc w _) _) _) _ = W
  have k0 : W.cell? ⟨w.heap.size + 2, 0, none⟩ = some (Value.int .i64 x) := by rw [← hWW]; simp [go_sem]
  have k1 : W.cell? ⟨w.heap.size + 2, 1, none⟩ = some (Value.int .i64 0) := by rw [← hWW]; simp [go_sem]
  have k2 : W.cell? ⟨w.heap.size + 2, 2, none⟩ = some (Value.int .i64 c) := by rw [← hWW]; simp [go_sem]
  have j0 : W.cell? ⟨w.heap.size + 1, 0, none⟩ = some (.int .i64 0) := by rw [← hWW]; simp [go_sem]
  have j1 : W.cell? ⟨w.heap.size + 1, 1, none⟩ = some (.int .i64 0) := by rw [← hWW]; simp [go_sem]
  have j2 : W.cell? ⟨w.heap.size + 1, 2, none⟩ = some (.int .i64 0) := by rw [← hWW]; simp [go_sem]
  have j3 : W.cell? ⟨w.heap.size + 1, 3, none⟩ = some (.int .i64 0) := by rw [← hWW]; simp [go_sem]
  have i0 : W.frozen? ⟨w.heap.size + 1, 0, none⟩ = false := by rw [← hWW]; simp [go_sem]
  have i1 : W.frozen? ⟨w.heap.size + 1, 1, none⟩ = false := by rw [← hWW]; simp [go_sem]
  have i2 : W.frozen? ⟨w.heap.size + 1, 2, none⟩ = false := by rw [← hWW]; simp [go_sem]
  have i3 : W.frozen? ⟨w.heap.size + 1, 3, none⟩ = false := by rw [← hWW]; simp [go_sem]
  have HBW : Aside0 (Below w.heap.size w W) := ⟨by
    rw [← hWW]
    repeat (first | exact HB.out | refine below_alloc ?_ _ | refine pw_below_drewN ?_ _ | refine below_drew1 ?_)⟩
  clear HB hWW
  have HB := HBW
  clear HBW
  go_region_held3 (fun w' => w'.cell? ⟨w.heap.size + 2, 0, none⟩ = some (Value.int .i64 x) ∧ w'.cell? ⟨w.heap.size + 2, 1, none⟩ = some (Value.int .i64 0) ∧ w'.cell? ⟨w.heap.size + 2, 2, none⟩ = some (Value.int .i64 c))
    (first | go_keep | exact ⟨kept hb (by assumption), kept hb (by assumption), kept hb (by assumption)⟩ | (go_split_ands; exact ⟨kept hb (by assumption), kept hb (by assumption), kept hb (by assumption)⟩))
    ((go_at_call 65; refine (HF.out _ _).mono ?_; rintro e w' ⟨rfl, hb⟩; have nb : Aside0 (Below w.heap.size w w') := ⟨step (by repeat (first | exact HB.out | refine below_alloc ?_ _ | refine pw_below_drewN ?_ _ | refine below_drew1 ?_)) hb⟩; clear HB; have HB := nb; clear nb; have hz0 : w'.cell? ⟨w.heap.size + 1, 0, none⟩ = some (.int .i64 0) := kept hb (by first | assumption | simp); have hf0 : w'.frozen? ⟨w.heap.size + 1, 0, none⟩ = false := keptF hb (.int .i64 0) (by first | assumption | simp) (by first | assumption | simp); have hz1 : w'.cell? ⟨w.heap.size + 1, 1, none⟩ = some (.int .i64 0) := kept hb (by first | assumption | simp); have hf1 : w'.frozen? ⟨w.heap.size + 1, 1, none⟩ = false := keptF hb (.int .i64 0) (by first | assumption | simp) (by first | assumption | simp); have hz2 : w'.cell? ⟨w.heap.size + 1, 2, none⟩ = some (.int .i64 0) := kept hb (by first | assumption | simp); have hf2 : w'.frozen? ⟨w.heap.size + 1, 2, none⟩ = false := keptF hb (.int .i64 0) (by first | assumption | simp) (by first | assumption | simp); have hz3 : w'.cell? ⟨w.heap.size + 1, 3, none⟩ = some (.int .i64 0) := kept hb (by first | assumption | simp); have hf3 : w'.frozen? ⟨w.heap.size + 1, 3, none⟩ = false := keptF hb (.int .i64 0) (by first | assumption | simp) (by first | assumption | simp)))
  go_wp2
  refine bodyPost_ret (v := .agg #[.int .i64 (lim (x + n)), .int .i64 (lim (0 + n)), .int .i64 (lim (c + n)), .int .i64 A]) (by simp [results, Try.results42, go_sem, hz0, hz1, hz2, hz3]) rfl ⟨rfl, ?_⟩
  repeat (first | exact HB.out | exact Nat.le_succ _ | refine below_set ?_ (Nat.le_succ _) | refine pw_below_drewN ?_ _ | refine below_drew1 ?_)

set_option maxRecDepth 100000 in
set_option maxHeartbeats 3200000 in
theorem fromHsl_4n (h0 h1 h2 al A y s l c f x n : Int) (w : World) (hA : lim al = A) (qA : (A == 0) = false) (hy : h0.tmod 65536 = y) (qy : y < 0) (yb : -65536 < y) (yb2 : y < 65536) (hs : lim h1 = s) (hl : lim h2 = l)
    (hc : chromaV s l = c) (hq : (6 * (y + 65536)).tdiv 65536 = 4) (q0 : 262144 ≤ 6 * (y + 65536)) (q1 : 6 * (y + 65536) < 327680) (hf : 6 * (y + 65536) - 262144 = f) (hx : rdiv (c * f) 65536 = x) (hn : rdiv (2 * l - c) 2 = n) :
    Calls Try.prog 42 #[.agg #[.int .i64 h0, .int .i64 h1, .int .i64 h2], .int .i64 al] w fun e w' => e = .returned (.agg #[.int .i64 (lim (x + n)), .int .i64 (lim (0 + n)), .int .i64 (lim (c + n)), .int .i64 A]) ∧ Below w.heap.size w w' := by
  have _ := And.intro yb2 (And.intro q0 q1)
  obtain ⟨s0, s1⟩ := lim_range h1
  obtain ⟨l0, l1⟩ := lim_range h2
  rw [hs] at s0 s1
  rw [hl] at l0 l1
  obtain ⟨v0, v1, c0, c1, c2⟩ := chroma_range s l s0 s1 l0 l1
  rw [hc] at c0 c1 c2
  obtain ⟨w0, w1, w2, w3⟩ := wide_range l l0 l1
  unfold chromaV at hc
  obtain ⟨E, hE⟩ : ∃ z, (if 2 * l - 65535 < -(2 * l - 65535) then -(2 * l - 65535) else 2 * l - 65535) = z := ⟨_, rfl⟩
  have hW : wide (2 * l - 65535) = 65535 - E := by unfold wide mx; rw [hE]
  rw [hW] at hc v0 v1 w0 w1 w2 w3 c2
  obtain ⟨p0, p1, x0, x1⟩ := part_range c f c0 c1 (by omega) (by omega)
  rw [hx] at x0 x1
  have n0 : 0 ≤ n ∧ n ≤ 65535 := by
    rw [← hn]
    exact rdiv_between _ 2 0 65535 (by omega) (by omega) (by omega)
  obtain ⟨n0, n1⟩ := n0
  have HA : Aside0 (∀ w, Qt 65 #[.int .i64 al] w (.int .i64 A)) := ⟨fun w => by rw [← hA]; exact limQ al w⟩
  have HS : Aside0 (∀ w, Qt 65 #[.int .i64 h1] w (.int .i64 s)) := ⟨fun w => by rw [← hs]; exact limQ h1 w⟩
  have HLL : Aside0 (∀ w, Qt 65 #[.int .i64 h2] w (.int .i64 l)) := ⟨fun w => by rw [← hl]; exact limQ h2 w⟩
  have H1 : Aside0 (∀ w, Qt 60 #[.int .i64 ((65535 - E) * s), .int .i64 65535] w (.int .i64 c)) := ⟨fun w => by rw [← hc]; exact divQ _ 65535 w (by omega) (by omega) (by omega) (by omega)⟩
  have H2 : Aside0 (∀ w, Qt 60 #[.int .i64 (c * f), .int .i64 65536] w (.int .i64 x)) := ⟨fun w => by rw [← hx]; exact divQ _ 65536 w (by omega) (by omega) (by omega) (by omega)⟩
  have H3 : Aside0 (∀ w, Qt 60 #[.int .i64 (2 * l - c), .int .i64 2] w (.int .i64 n)) := ⟨fun w => by rw [← hn]; exact divQ _ 2 w (by omega) (by omega) (by omega) (by omega)⟩
  have HF : Aside0 (∀ x w, Calls Try.prog 65 #[.int .i64 x] w fun e w' => e = .returned (.int .i64 (lim x)) ∧ Below w.heap.size w w') := ⟨fun x w => limit_any x w⟩
  clear hA hs hl hc hx hn hW
  have e1 := wi (6 * (y + 65536)) (by omega) (by omega)
  have e2 := wi (2 * l) (by omega) (by omega)
  have e3 := wi (2 * l - 65535) (by omega) (by omega)
  have e4 := wi ((65535 - E) * s) (by omega) (by omega)
  have e5 := wi (65535 - E) (by omega) (by omega)
  have e6 := wi (c * f) (by omega) (by omega)
  have e7 := wi (2 * l - c) (by omega) (by omega)
  have e8 := wi (c + n) (by omega) (by omega)
  have e9 := wi (x + n) (by omega) (by omega)
  have e10 := wi n (by omega) (by omega)
  have HB := Aside0.mk (Below.refl w.heap.size w)
  go_enter Try.func42, Try.ntmps42
  go_wp2_with fail
  refine (HA.out _).mono ?_
  rintro e w1 ⟨rfl, m1, rfl⟩
  dsimp only
  go_wp2_with fail
  go_quiet (first | (go_at_call 65; with_reducible first | exact Qt.at (HS.out _) | exact Qt.at2 (HS.out _) | exact Qt.at (HLL.out _) | exact Qt.at2 (HLL.out _)))
  clear HA HS HLL
  go_wp2_with fail
  refine (H1.out _).mono ?_
  rintro e w2 ⟨rfl, m2, rfl⟩
  dsimp only
  go_wp2_with fail
  refine (H2.out _).mono ?_
  rintro e w3 ⟨rfl, m3, rfl⟩
  dsimp only
  go_wp2_with fail
  refine (H3.out _).mono ?_
  rintro e w4 ⟨rfl, m4, rfl⟩
  dsimp only
  clear H1 H2 H3
  go_wp2_with fail
  clear hE e1 e2 e3 e4 e5 e6 e7 hy qy qA hq hf
  generalize hWW : World.alloc (World.drewN (World.alloc (World.alloc w _) _) _) _ = W
  have k0 : W.cell? ⟨w.heap.size + 2, 0, none⟩ = some (Value.int .i64 x) := by rw [← hWW]; simp [go_sem]
  have k1 : W.cell? ⟨w.heap.size + 2, 1, none⟩ = some (Value.int .i64 0) := by rw [← hWW]; simp [go_sem]
  have k2 : W.cell? ⟨w.heap.size + 2, 2, none⟩ = some (Value.int .i64 c) := by rw [← hWW]; simp [go_sem]
  have j0 : W.cell? ⟨w.heap.size + 1, 0, none⟩ = some (.int .i64 0) := by rw [← hWW]; simp [go_sem]
  have j1 : W.cell? ⟨w.heap.size + 1, 1, none⟩ = some (.int .i64 0) := by rw [← hWW]; simp [go_sem]
  have j2 : W.cell? ⟨w.heap.size + 1, 2, none⟩ = some (.int .i64 0) := by rw [← hWW]; simp [go_sem]
  have j3 : W.cell? ⟨w.heap.size + 1, 3, none⟩ = some (.int .i64 0) := by rw [← hWW]; simp [go_sem]
  have i0 : W.frozen? ⟨w.heap.size + 1, 0, none⟩ = false := by rw [← hWW]; simp [go_sem]
  have i1 : W.frozen? ⟨w.heap.size + 1, 1, none⟩ = false := by rw [← hWW]; simp [go_sem]
  have i2 : W.frozen? ⟨w.heap.size + 1, 2, none⟩ = false := by rw [← hWW]; simp [go_sem]
  have i3 : W.frozen? ⟨w.heap.size + 1, 3, none⟩ = false := by rw [← hWW]; simp [go_sem]
  have HBW : Aside0 (Below w.heap.size w W) := ⟨by
    rw [← hWW]
    repeat (first | exact HB.out | refine below_alloc ?_ _ | refine pw_below_drewN ?_ _ | refine below_drew1 ?_)⟩
  clear HB hWW
  have HB := HBW
  clear HBW
  go_region_held3 (fun w' => w'.cell? ⟨w.heap.size + 2, 0, none⟩ = some (Value.int .i64 x) ∧ w'.cell? ⟨w.heap.size + 2, 1, none⟩ = some (Value.int .i64 0) ∧ w'.cell? ⟨w.heap.size + 2, 2, none⟩ = some (Value.int .i64 c))
    (first | go_keep | exact ⟨kept hb (by assumption), kept hb (by assumption), kept hb (by assumption)⟩ | (go_split_ands; exact ⟨kept hb (by assumption), kept hb (by assumption), kept hb (by assumption)⟩))
    ((go_at_call 65; refine (HF.out _ _).mono ?_; rintro e w' ⟨rfl, hb⟩; have nb : Aside0 (Below w.heap.size w w') := ⟨step (by repeat (first | exact HB.out | refine below_alloc ?_ _ | refine pw_below_drewN ?_ _ | refine below_drew1 ?_)) hb⟩; clear HB; have HB := nb; clear nb; have hz0 : w'.cell? ⟨w.heap.size + 1, 0, none⟩ = some (.int .i64 0) := kept hb (by first | assumption | simp); have hf0 : w'.frozen? ⟨w.heap.size + 1, 0, none⟩ = false := keptF hb (.int .i64 0) (by first | assumption | simp) (by first | assumption | simp); have hz1 : w'.cell? ⟨w.heap.size + 1, 1, none⟩ = some (.int .i64 0) := kept hb (by first | assumption | simp); have hf1 : w'.frozen? ⟨w.heap.size + 1, 1, none⟩ = false := keptF hb (.int .i64 0) (by first | assumption | simp) (by first | assumption | simp); have hz2 : w'.cell? ⟨w.heap.size + 1, 2, none⟩ = some (.int .i64 0) := kept hb (by first | assumption | simp); have hf2 : w'.frozen? ⟨w.heap.size + 1, 2, none⟩ = false := keptF hb (.int .i64 0) (by first | assumption | simp) (by first | assumption | simp); have hz3 : w'.cell? ⟨w.heap.size + 1, 3, none⟩ = some (.int .i64 0) := kept hb (by first | assumption | simp); have hf3 : w'.frozen? ⟨w.heap.size + 1, 3, none⟩ = false := keptF hb (.int .i64 0) (by first | assumption | simp) (by first | assumption | simp)))
  go_wp2
  refine bodyPost_ret (v := .agg #[.int .i64 (lim (x + n)), .int .i64 (lim (0 + n)), .int .i64 (lim (c + n)), .int .i64 A]) (by simp [results, Try.results42, go_sem, hz0, hz1, hz2, hz3]) rfl ⟨rfl, ?_⟩
  repeat (first | exact HB.out | exact Nat.le_succ _ | refine below_set ?_ (Nat.le_succ _) | refine pw_below_drewN ?_ _ | refine below_drew1 ?_)

set_option maxRecDepth 100000 in
set_option maxHeartbeats 3200000 in
theorem fromHsl_5 (h0 h1 h2 al A y s l c f x n : Int) (w : World) (hA : lim al = A) (qA : (A == 0) = false) (hy : h0.tmod 65536 = y) (qy : ¬ y < 0) (yb : -65536 < y) (yb2 : y < 65536) (hs : lim h1 = s) (hl : lim h2 = l)
    (hc : chromaV s l = c) (hq : (6 * y).tdiv 65536 = 5) (q0 : 327680 ≤ 6 * y) (q1 : 6 * y < 393216) (hf : 65536 - (6 * y - 327680) = f) (hx : rdiv (c * f) 65536 = x) (hn : rdiv (2 * l - c) 2 = n) :
    Calls Try.prog 42 #[.agg #[.int .i64 h0, .int .i64 h1, .int .i64 h2], .int .i64 al] w fun e w' => e = .returned (.agg #[.int .i64 (lim (c + n)), .int .i64 (lim (0 + n)), .int .i64 (lim (x + n)), .int .i64 A]) ∧ Below w.heap.size w w' := by
  have _ := And.intro yb2 (And.intro q0 q1)
  obtain ⟨s0, s1⟩ := lim_range h1
  obtain ⟨l0, l1⟩ := lim_range h2
  rw [hs] at s0 s1
  rw [hl] at l0 l1
  obtain ⟨v0, v1, c0, c1, c2⟩ := chroma_range s l s0 s1 l0 l1
  rw [hc] at c0 c1 c2
  obtain ⟨w0, w1, w2, w3⟩ := wide_range l l0 l1
  unfold chromaV at hc
  obtain ⟨E, hE⟩ : ∃ z, (if 2 * l - 65535 < -(2 * l - 65535) then -(2 * l - 65535) else 2 * l - 65535) = z := ⟨_, rfl⟩
  have hW : wide (2 * l - 65535) = 65535 - E := by unfold wide mx; rw [hE]
  rw [hW] at hc v0 v1 w0 w1 w2 w3 c2
  obtain ⟨p0, p1, x0, x1⟩ := part_range c f c0 c1 (by omega) (by omega)
  rw [hx] at x0 x1
  have n0 : 0 ≤ n ∧ n ≤ 65535 := by
    rw [← hn]
    exact rdiv_between _ 2 0 65535 (by omega) (by omega) (by omega)
  obtain ⟨n0, n1⟩ := n0
  have HA : Aside0 (∀ w, Qt 65 #[.int .i64 al] w (.int .i64 A)) := ⟨fun w => by rw [← hA]; exact limQ al w⟩
  have HS : Aside0 (∀ w, Qt 65 #[.int .i64 h1] w (.int .i64 s)) := ⟨fun w => by rw [← hs]; exact limQ h1 w⟩
  have HLL : Aside0 (∀ w, Qt 65 #[.int .i64 h2] w (.int .i64 l)) := ⟨fun w => by rw [← hl]; exact limQ h2 w⟩
  have H1 : Aside0 (∀ w, Qt 60 #[.int .i64 ((65535 - E) * s), .int .i64 65535] w (.int .i64 c)) := ⟨fun w => by rw [← hc]; exact divQ _ 65535 w (by omega) (by omega) (by omega) (by omega)⟩
  have H2 : Aside0 (∀ w, Qt 60 #[.int .i64 (c * f), .int .i64 65536] w (.int .i64 x)) := ⟨fun w => by rw [← hx]; exact divQ _ 65536 w (by omega) (by omega) (by omega) (by omega)⟩
  have H3 : Aside0 (∀ w, Qt 60 #[.int .i64 (2 * l - c), .int .i64 2] w (.int .i64 n)) := ⟨fun w => by rw [← hn]; exact divQ _ 2 w (by omega) (by omega) (by omega) (by omega)⟩
  have HF : Aside0 (∀ x w, Calls Try.prog 65 #[.int .i64 x] w fun e w' => e = .returned (.int .i64 (lim x)) ∧ Below w.heap.size w w') := ⟨fun x w => limit_any x w⟩
  clear hA hs hl hc hx hn hW
  have e1 := wi (6 * y) (by omega) (by omega)
  have e2 := wi (2 * l) (by omega) (by omega)
  have e3 := wi (2 * l - 65535) (by omega) (by omega)
  have e4 := wi ((65535 - E) * s) (by omega) (by omega)
  have e5 := wi (65535 - E) (by omega) (by omega)
  have e6 := wi (c * f) (by omega) (by omega)
  have e7 := wi (2 * l - c) (by omega) (by omega)
  have e8 := wi (c + n) (by omega) (by omega)
  have e9 := wi (x + n) (by omega) (by omega)
  have e10 := wi n (by omega) (by omega)
  have HB := Aside0.mk (Below.refl w.heap.size w)
  go_enter Try.func42, Try.ntmps42
  go_wp2_with fail
  refine (HA.out _).mono ?_
  rintro e w1 ⟨rfl, m1, rfl⟩
  dsimp only
  go_wp2_with fail
  go_quiet (first | (go_at_call 65; with_reducible first | exact Qt.at (HS.out _) | exact Qt.at2 (HS.out _) | exact Qt.at (HLL.out _) | exact Qt.at2 (HLL.out _)))
  clear HA HS HLL
  go_wp2_with fail
  refine (H1.out _).mono ?_
  rintro e w2 ⟨rfl, m2, rfl⟩
  dsimp only
  go_wp2_with fail
  refine (H2.out _).mono ?_
  rintro e w3 ⟨rfl, m3, rfl⟩
  dsimp only
  go_wp2_with fail
  refine (H3.out _).mono ?_
  rintro e w4 ⟨rfl, m4, rfl⟩
  dsimp only
  clear H1 H2 H3
  go_wp2_with fail
  clear hE e1 e2 e3 e4 e5 e6 e7 hy qy qA hq hf
  generalize hWW : World.alloc (World.drewN (World.alloc (World.alloc w _) _) _) _ = W
  have k0 : W.cell? ⟨w.heap.size + 2, 0, none⟩ = some (Value.int .i64 c) := by rw [← hWW]; simp [go_sem]
  have k1 : W.cell? ⟨w.heap.size + 2, 1, none⟩ = some (Value.int .i64 0) := by rw [← hWW]; simp [go_sem]
  have k2 : W.cell? ⟨w.heap.size + 2, 2, none⟩ = some (Value.int .i64 x) := by rw [← hWW]; simp [go_sem]
  have j0 : W.cell? ⟨w.heap.size + 1, 0, none⟩ = some (.int .i64 0) := by rw [← hWW]; simp [go_sem]
  have j1 : W.cell? ⟨w.heap.size + 1, 1, none⟩ = some (.int .i64 0) := by rw [← hWW]; simp [go_sem]
  have j2 : W.cell? ⟨w.heap.size + 1, 2, none⟩ = some (.int .i64 0) := by rw [← hWW]; simp [go_sem]
  have j3 : W.cell? ⟨w.heap.size + 1, 3, none⟩ = some (.int .i64 0) := by rw [← hWW]; simp [go_sem]
  have i0 : W.frozen? ⟨w.heap.size + 1, 0, none⟩ = false := by rw [← hWW]; simp [go_sem]
  have i1 : W.frozen? ⟨w.heap.size + 1, 1, none⟩ = false := by rw [← hWW]; simp [go_sem]
  have i2 : W.frozen? ⟨w.heap.size + 1, 2, none⟩ = false := by rw [← hWW]; simp [go_sem]
  have i3 : W.frozen? ⟨w.heap.size + 1, 3, none⟩ = false := by rw [← hWW]; simp [go_sem]
  have HBW : Aside0 (Below w.heap.size w W) := ⟨by
    rw [← hWW]
    repeat (first | exact HB.out | refine below_alloc ?_ _ | refine pw_below_drewN ?_ _ | refine below_drew1 ?_)⟩
  clear HB hWW
  have HB := HBW
  clear HBW
  go_region_held3 (fun w' => w'.cell? ⟨w.heap.size + 2, 0, none⟩ = some (Value.int .i64 c) ∧ w'.cell? ⟨w.heap.size + 2, 1, none⟩ = some (Value.int .i64 0) ∧ w'.cell? ⟨w.heap.size + 2, 2, none⟩ = some (Value.int .i64 x))
    (first | go_keep | exact ⟨kept hb (by assumption), kept hb (by assumption), kept hb (by assumption)⟩ | (go_split_ands; exact ⟨kept hb (by assumption), kept hb (by assumption), kept hb (by assumption)⟩))
    ((go_at_call 65; refine (HF.out _ _).mono ?_; rintro e w' ⟨rfl, hb⟩; have nb : Aside0 (Below w.heap.size w w') := ⟨step (by repeat (first | exact HB.out | refine below_alloc ?_ _ | refine pw_below_drewN ?_ _ | refine below_drew1 ?_)) hb⟩; clear HB; have HB := nb; clear nb; have hz0 : w'.cell? ⟨w.heap.size + 1, 0, none⟩ = some (.int .i64 0) := kept hb (by first | assumption | simp); have hf0 : w'.frozen? ⟨w.heap.size + 1, 0, none⟩ = false := keptF hb (.int .i64 0) (by first | assumption | simp) (by first | assumption | simp); have hz1 : w'.cell? ⟨w.heap.size + 1, 1, none⟩ = some (.int .i64 0) := kept hb (by first | assumption | simp); have hf1 : w'.frozen? ⟨w.heap.size + 1, 1, none⟩ = false := keptF hb (.int .i64 0) (by first | assumption | simp) (by first | assumption | simp); have hz2 : w'.cell? ⟨w.heap.size + 1, 2, none⟩ = some (.int .i64 0) := kept hb (by first | assumption | simp); have hf2 : w'.frozen? ⟨w.heap.size + 1, 2, none⟩ = false := keptF hb (.int .i64 0) (by first | assumption | simp) (by first | assumption | simp); have hz3 : w'.cell? ⟨w.heap.size + 1, 3, none⟩ = some (.int .i64 0) := kept hb (by first | assumption | simp); have hf3 : w'.frozen? ⟨w.heap.size + 1, 3, none⟩ = false := keptF hb (.int .i64 0) (by first | assumption | simp) (by first | assumption | simp)))
  go_wp2
  refine bodyPost_ret (v := .agg #[.int .i64 (lim (c + n)), .int .i64 (lim (0 + n)), .int .i64 (lim (x + n)), .int .i64 A]) (by simp [results, Try.results42, go_sem, hz0, hz1, hz2, hz3]) rfl ⟨rfl, ?_⟩
  repeat (first | exact HB.out | exact Nat.le_succ _ | refine below_set ?_ (Nat.le_succ _) | refine pw_below_drewN ?_ _ | refine below_drew1 ?_)

set_option maxRecDepth 100000 in
set_option maxHeartbeats 3200000 in
theorem fromHsl_5n (h0 h1 h2 al A y s l c f x n : Int) (w : World) (hA : lim al = A) (qA : (A == 0) = false) (hy : h0.tmod 65536 = y) (qy : y < 0) (yb : -65536 < y) (yb2 : y < 65536) (hs : lim h1 = s) (hl : lim h2 = l)
    (hc : chromaV s l = c) (hq : (6 * (y + 65536)).tdiv 65536 = 5) (q0 : 327680 ≤ 6 * (y + 65536)) (q1 : 6 * (y + 65536) < 393216) (hf : 65536 - (6 * (y + 65536) - 327680) = f) (hx : rdiv (c * f) 65536 = x) (hn : rdiv (2 * l - c) 2 = n) :
    Calls Try.prog 42 #[.agg #[.int .i64 h0, .int .i64 h1, .int .i64 h2], .int .i64 al] w fun e w' => e = .returned (.agg #[.int .i64 (lim (c + n)), .int .i64 (lim (0 + n)), .int .i64 (lim (x + n)), .int .i64 A]) ∧ Below w.heap.size w w' := by
  have _ := And.intro yb2 (And.intro q0 q1)
  obtain ⟨s0, s1⟩ := lim_range h1
  obtain ⟨l0, l1⟩ := lim_range h2
  rw [hs] at s0 s1
  rw [hl] at l0 l1
  obtain ⟨v0, v1, c0, c1, c2⟩ := chroma_range s l s0 s1 l0 l1
  rw [hc] at c0 c1 c2
  obtain ⟨w0, w1, w2, w3⟩ := wide_range l l0 l1
  unfold chromaV at hc
  obtain ⟨E, hE⟩ : ∃ z, (if 2 * l - 65535 < -(2 * l - 65535) then -(2 * l - 65535) else 2 * l - 65535) = z := ⟨_, rfl⟩
  have hW : wide (2 * l - 65535) = 65535 - E := by unfold wide mx; rw [hE]
  rw [hW] at hc v0 v1 w0 w1 w2 w3 c2
  obtain ⟨p0, p1, x0, x1⟩ := part_range c f c0 c1 (by omega) (by omega)
  rw [hx] at x0 x1
  have n0 : 0 ≤ n ∧ n ≤ 65535 := by
    rw [← hn]
    exact rdiv_between _ 2 0 65535 (by omega) (by omega) (by omega)
  obtain ⟨n0, n1⟩ := n0
  have HA : Aside0 (∀ w, Qt 65 #[.int .i64 al] w (.int .i64 A)) := ⟨fun w => by rw [← hA]; exact limQ al w⟩
  have HS : Aside0 (∀ w, Qt 65 #[.int .i64 h1] w (.int .i64 s)) := ⟨fun w => by rw [← hs]; exact limQ h1 w⟩
  have HLL : Aside0 (∀ w, Qt 65 #[.int .i64 h2] w (.int .i64 l)) := ⟨fun w => by rw [← hl]; exact limQ h2 w⟩
  have H1 : Aside0 (∀ w, Qt 60 #[.int .i64 ((65535 - E) * s), .int .i64 65535] w (.int .i64 c)) := ⟨fun w => by rw [← hc]; exact divQ _ 65535 w (by omega) (by omega) (by omega) (by omega)⟩
  have H2 : Aside0 (∀ w, Qt 60 #[.int .i64 (c * f), .int .i64 65536] w (.int .i64 x)) := ⟨fun w => by rw [← hx]; exact divQ _ 65536 w (by omega) (by omega) (by omega) (by omega)⟩
  have H3 : Aside0 (∀ w, Qt 60 #[.int .i64 (2 * l - c), .int .i64 2] w (.int .i64 n)) := ⟨fun w => by rw [← hn]; exact divQ _ 2 w (by omega) (by omega) (by omega) (by omega)⟩
  have HF : Aside0 (∀ x w, Calls Try.prog 65 #[.int .i64 x] w fun e w' => e = .returned (.int .i64 (lim x)) ∧ Below w.heap.size w w') := ⟨fun x w => limit_any x w⟩
  clear hA hs hl hc hx hn hW
  have e1 := wi (6 * (y + 65536)) (by omega) (by omega)
  have e2 := wi (2 * l) (by omega) (by omega)
  have e3 := wi (2 * l - 65535) (by omega) (by omega)
  have e4 := wi ((65535 - E) * s) (by omega) (by omega)
  have e5 := wi (65535 - E) (by omega) (by omega)
  have e6 := wi (c * f) (by omega) (by omega)
  have e7 := wi (2 * l - c) (by omega) (by omega)
  have e8 := wi (c + n) (by omega) (by omega)
  have e9 := wi (x + n) (by omega) (by omega)
  have e10 := wi n (by omega) (by omega)
  have HB := Aside0.mk (Below.refl w.heap.size w)
  go_enter Try.func42, Try.ntmps42
  go_wp2_with fail
  refine (HA.out _).mono ?_
  rintro e w1 ⟨rfl, m1, rfl⟩
  dsimp only
  go_wp2_with fail
  go_quiet (first | (go_at_call 65; with_reducible first | exact Qt.at (HS.out _) | exact Qt.at2 (HS.out _) | exact Qt.at (HLL.out _) | exact Qt.at2 (HLL.out _)))
  clear HA HS HLL
  go_wp2_with fail
  refine (H1.out _).mono ?_
  rintro e w2 ⟨rfl, m2, rfl⟩
  dsimp only
  go_wp2_with fail
  refine (H2.out _).mono ?_
  rintro e w3 ⟨rfl, m3, rfl⟩
  dsimp only
  go_wp2_with fail
  refine (H3.out _).mono ?_
  rintro e w4 ⟨rfl, m4, rfl⟩
  dsimp only
  clear H1 H2 H3
  go_wp2_with fail
  clear hE e1 e2 e3 e4 e5 e6 e7 hy qy qA hq hf
  generalize hWW : World.alloc (World.drewN (World.alloc (World.alloc w _) _) _) _ = W
  have k0 : W.cell? ⟨w.heap.size + 2, 0, none⟩ = some (Value.int .i64 c) := by rw [← hWW]; simp [go_sem]
  have k1 : W.cell? ⟨w.heap.size + 2, 1, none⟩ = some (Value.int .i64 0) := by rw [← hWW]; simp [go_sem]
  have k2 : W.cell? ⟨w.heap.size + 2, 2, none⟩ = some (Value.int .i64 x) := by rw [← hWW]; simp [go_sem]
  have j0 : W.cell? ⟨w.heap.size + 1, 0, none⟩ = some (.int .i64 0) := by rw [← hWW]; simp [go_sem]
  have j1 : W.cell? ⟨w.heap.size + 1, 1, none⟩ = some (.int .i64 0) := by rw [← hWW]; simp [go_sem]
  have j2 : W.cell? ⟨w.heap.size + 1, 2, none⟩ = some (.int .i64 0) := by rw [← hWW]; simp [go_sem]
  have j3 : W.cell? ⟨w.heap.size + 1, 3, none⟩ = some (.int .i64 0) := by rw [← hWW]; simp [go_sem]
  have i0 : W.frozen? ⟨w.heap.size + 1, 0, none⟩ = false := by rw [← hWW]; simp [go_sem]
  have i1 : W.frozen? ⟨w.heap.size + 1, 1, none⟩ = false := by rw [← hWW]; simp [go_sem]
  have i2 : W.frozen? ⟨w.heap.size + 1, 2, none⟩ = false := by rw [← hWW]; simp [go_sem]
  have i3 : W.frozen? ⟨w.heap.size + 1, 3, none⟩ = false := by rw [← hWW]; simp [go_sem]
  have HBW : Aside0 (Below w.heap.size w W) := ⟨by
    rw [← hWW]
    repeat (first | exact HB.out | refine below_alloc ?_ _ | refine pw_below_drewN ?_ _ | refine below_drew1 ?_)⟩
  clear HB hWW
  have HB := HBW
  clear HBW
  go_region_held3 (fun w' => w'.cell? ⟨w.heap.size + 2, 0, none⟩ = some (Value.int .i64 c) ∧ w'.cell? ⟨w.heap.size + 2, 1, none⟩ = some (Value.int .i64 0) ∧ w'.cell? ⟨w.heap.size + 2, 2, none⟩ = some (Value.int .i64 x))
    (first | go_keep | exact ⟨kept hb (by assumption), kept hb (by assumption), kept hb (by assumption)⟩ | (go_split_ands; exact ⟨kept hb (by assumption), kept hb (by assumption), kept hb (by assumption)⟩))
    ((go_at_call 65; refine (HF.out _ _).mono ?_; rintro e w' ⟨rfl, hb⟩; have nb : Aside0 (Below w.heap.size w w') := ⟨step (by repeat (first | exact HB.out | refine below_alloc ?_ _ | refine pw_below_drewN ?_ _ | refine below_drew1 ?_)) hb⟩; clear HB; have HB := nb; clear nb; have hz0 : w'.cell? ⟨w.heap.size + 1, 0, none⟩ = some (.int .i64 0) := kept hb (by first | assumption | simp); have hf0 : w'.frozen? ⟨w.heap.size + 1, 0, none⟩ = false := keptF hb (.int .i64 0) (by first | assumption | simp) (by first | assumption | simp); have hz1 : w'.cell? ⟨w.heap.size + 1, 1, none⟩ = some (.int .i64 0) := kept hb (by first | assumption | simp); have hf1 : w'.frozen? ⟨w.heap.size + 1, 1, none⟩ = false := keptF hb (.int .i64 0) (by first | assumption | simp) (by first | assumption | simp); have hz2 : w'.cell? ⟨w.heap.size + 1, 2, none⟩ = some (.int .i64 0) := kept hb (by first | assumption | simp); have hf2 : w'.frozen? ⟨w.heap.size + 1, 2, none⟩ = false := keptF hb (.int .i64 0) (by first | assumption | simp) (by first | assumption | simp); have hz3 : w'.cell? ⟨w.heap.size + 1, 3, none⟩ = some (.int .i64 0) := kept hb (by first | assumption | simp); have hf3 : w'.frozen? ⟨w.heap.size + 1, 3, none⟩ = false := keptF hb (.int .i64 0) (by first | assumption | simp) (by first | assumption | simp)))
  go_wp2
  refine bodyPost_ret (v := .agg #[.int .i64 (lim (c + n)), .int .i64 (lim (0 + n)), .int .i64 (lim (x + n)), .int .i64 A]) (by simp [results, Try.results42, go_sem, hz0, hz1, hz2, hz3]) rfl ⟨rfl, ?_⟩
  repeat (first | exact HB.out | exact Nat.le_succ _ | refine below_set ?_ (Nat.le_succ _) | refine pw_below_drewN ?_ _ | refine below_drew1 ?_)

set_option maxRecDepth 100000 in
set_option maxHeartbeats 3200000 in
theorem fromHsl_zero (h0 h1 h2 al : Int) (w : World) (qA : lim al = 0) :
    Calls Try.prog 42 #[.agg #[.int .i64 h0, .int .i64 h1, .int .i64 h2], .int .i64 al] w fun e w' => e = .returned (.agg #[.int .i64 0, .int .i64 0, .int .i64 0, .int .i64 0]) ∧ Below w.heap.size w w' := by
  have HA : Aside0 (∀ w, Qt 65 #[.int .i64 al] w (.int .i64 0)) := ⟨fun w => by rw [← qA]; exact limQ al w⟩
  have HB := Aside0.mk (Below.refl w.heap.size w)
  clear qA
  go_enter Try.func42, Try.ntmps42
  go_wp2_with fail
  refine (HA.out _).mono ?_
  rintro e w1 ⟨rfl, m1, rfl⟩
  dsimp only
  go_wp2_with fail
  refine bodyPost_ret (v := .agg #[.int .i64 0, .int .i64 0, .int .i64 0, .int .i64 0]) (by simp [results, Try.results42, go_sem]) rfl ⟨rfl, ?_⟩
  repeat (first | exact HB.out | exact Nat.le_succ _ | refine below_set ?_ (Nat.le_succ _) | refine pw_below_drewN ?_ _ | refine below_drew1 ?_ | refine below_alloc ?_ _)

/-- The part of a color that the sixth q of the circle gives to each channel. -/
def pick (q c x : Int) : Int × Int × Int :=
  if q = 0 then (c, x, 0) else if q = 1 then (x, c, 0) else if q = 2 then (0, c, x) else if q = 3 then (0, x, c) else if q = 4 then (x, 0, c) else (c, 0, x)
def fallV (t : Int) : Int := if (6 * t / 65536) % 2 = 1 then 65536 - (6 * t - 65536 * (6 * t / 65536)) else 6 * t - 65536 * (6 * t / 65536)
def secV (c t : Int) : Int := rdiv (c * fallV t) 65536
def baseV (c l : Int) : Int := rdiv (2 * l - c) 2
def rgbV (t s l : Int) : Int × Int × Int := pick (6 * t / 65536) (chromaV s l) (secV (chromaV s l) t)
def fromR (h0 h1 h2 : Int) : Int := lim ((rgbV (h0 % 65536) (lim h1) (lim h2)).1 + baseV (chromaV (lim h1) (lim h2)) (lim h2))
def fromG (h0 h1 h2 : Int) : Int := lim ((rgbV (h0 % 65536) (lim h1) (lim h2)).2.1 + baseV (chromaV (lim h1) (lim h2)) (lim h2))
def fromB (h0 h1 h2 : Int) : Int := lim ((rgbV (h0 % 65536) (lim h1) (lim h2)).2.2 + baseV (chromaV (lim h1) (lim h2)) (lim h2))
/-- What FromHsl answers. -/
def fromPix (h0 h1 h2 al : Int) : Value :=
  if lim al = 0 then .agg #[.int .i64 0, .int .i64 0, .int .i64 0, .int .i64 0] else .agg #[.int .i64 (fromR h0 h1 h2), .int .i64 (fromG h0 h1 h2), .int .i64 (fromB h0 h1 h2), .int .i64 (lim al)]
theorem fromHsl_any (h0 h1 h2 al : Int) (w : World) :
    Calls Try.prog 42 #[.agg #[.int .i64 h0, .int .i64 h1, .int .i64 h2], .int .i64 al] w fun e w' => e = .returned (fromPix h0 h1 h2 al) ∧ Below w.heap.size w w' := by
  unfold fromPix
  by_cases hA : lim al = 0
  · rw [if_pos hA]
    exact fromHsl_zero h0 h1 h2 al w hA
  rw [if_neg hA]
  have hAb : (lim al == 0) = false := by simpa using hA
  unfold fromR fromG fromB rgbV secV baseV
  obtain ⟨p1, p2⟩ := tmod_emod h0
  obtain ⟨T, hT⟩ : ∃ T, h0 % 65536 = T := ⟨_, rfl⟩
  have T0 : 0 ≤ T := by omega
  have T1 : T < 65536 := by omega
  rw [hT] at p1 p2 ⊢
  clear hT
  have hq : (6 * T).tdiv 65536 = 6 * T / 65536 := Int.tdiv_eq_ediv_of_nonneg (by omega)
  have hcases : 6 * T / 65536 = 0 ∨ 6 * T / 65536 = 1 ∨ 6 * T / 65536 = 2 ∨ 6 * T / 65536 = 3 ∨ 6 * T / 65536 = 4 ∨ 6 * T / 65536 = 5 := by omega
  have yb : -65536 < h0.tmod 65536 ∧ h0.tmod 65536 < 65536 := by
    obtain ⟨tp, tn⟩ := floor_parts h0 65536
    rcases (by omega : 0 ≤ h0 ∨ h0 < 0) with h | h
    · rw [(tp h).2]; omega
    · rw [(tn h).2]; omega
  obtain ⟨yb, yb2⟩ := yb
  by_cases hy : h0.tmod 65536 < 0
  · have e := p1 hy
    clear p1 p2
    rcases hcases with h | h | h | h | h | h
    · have e2 : fallV T = 6 * T - 0 := by unfold fallV; rw [h]; first | omega | (simp; done) | (split <;> omega)
      rw [e2, h]
      rw [hq] at *
      subst e
      exact fromHsl_0n h0 h1 h2 al _ _ _ _ _ _ _ _ w rfl hAb rfl hy yb yb2 rfl rfl rfl (by rw [Int.tdiv_eq_ediv_of_nonneg (by omega)]; omega) (by omega) (by omega) rfl rfl rfl
    · have e2 : fallV T = 65536 - (6 * T - 65536) := by unfold fallV; rw [h]; first | omega | (simp; done) | (split <;> omega)
      rw [e2, h]
      rw [hq] at *
      subst e
      exact fromHsl_1n h0 h1 h2 al _ _ _ _ _ _ _ _ w rfl hAb rfl hy yb yb2 rfl rfl rfl (by rw [Int.tdiv_eq_ediv_of_nonneg (by omega)]; omega) (by omega) (by omega) rfl rfl rfl
    · have e2 : fallV T = 6 * T - 131072 := by unfold fallV; rw [h]; first | omega | (simp; done) | (split <;> omega)
      rw [e2, h]
      rw [hq] at *
      subst e
      exact fromHsl_2n h0 h1 h2 al _ _ _ _ _ _ _ _ w rfl hAb rfl hy yb yb2 rfl rfl rfl (by rw [Int.tdiv_eq_ediv_of_nonneg (by omega)]; omega) (by omega) (by omega) rfl rfl rfl
    · have e2 : fallV T = 65536 - (6 * T - 196608) := by unfold fallV; rw [h]; first | omega | (simp; done) | (split <;> omega)
      rw [e2, h]
      rw [hq] at *
      subst e
      exact fromHsl_3n h0 h1 h2 al _ _ _ _ _ _ _ _ w rfl hAb rfl hy yb yb2 rfl rfl rfl (by rw [Int.tdiv_eq_ediv_of_nonneg (by omega)]; omega) (by omega) (by omega) rfl rfl rfl
    · have e2 : fallV T = 6 * T - 262144 := by unfold fallV; rw [h]; first | omega | (simp; done) | (split <;> omega)
      rw [e2, h]
      rw [hq] at *
      subst e
      exact fromHsl_4n h0 h1 h2 al _ _ _ _ _ _ _ _ w rfl hAb rfl hy yb yb2 rfl rfl rfl (by rw [Int.tdiv_eq_ediv_of_nonneg (by omega)]; omega) (by omega) (by omega) rfl rfl rfl
    · have e2 : fallV T = 65536 - (6 * T - 327680) := by unfold fallV; rw [h]; first | omega | (simp; done) | (split <;> omega)
      rw [e2, h]
      rw [hq] at *
      subst e
      exact fromHsl_5n h0 h1 h2 al _ _ _ _ _ _ _ _ w rfl hAb rfl hy yb yb2 rfl rfl rfl (by rw [Int.tdiv_eq_ediv_of_nonneg (by omega)]; omega) (by omega) (by omega) rfl rfl rfl
  · have e := p2 hy
    clear p1 p2
    rcases hcases with h | h | h | h | h | h
    · have e2 : fallV T = 6 * T - 0 := by unfold fallV; rw [h]; first | omega | (simp; done) | (split <;> omega)
      rw [e2, h]
      rw [hq] at *
      subst e
      exact fromHsl_0 h0 h1 h2 al _ _ _ _ _ _ _ _ w rfl hAb rfl hy yb yb2 rfl rfl rfl (by rw [Int.tdiv_eq_ediv_of_nonneg (by omega)]; omega) (by omega) (by omega) rfl rfl rfl
    · have e2 : fallV T = 65536 - (6 * T - 65536) := by unfold fallV; rw [h]; first | omega | (simp; done) | (split <;> omega)
      rw [e2, h]
      rw [hq] at *
      subst e
      exact fromHsl_1 h0 h1 h2 al _ _ _ _ _ _ _ _ w rfl hAb rfl hy yb yb2 rfl rfl rfl (by rw [Int.tdiv_eq_ediv_of_nonneg (by omega)]; omega) (by omega) (by omega) rfl rfl rfl
    · have e2 : fallV T = 6 * T - 131072 := by unfold fallV; rw [h]; first | omega | (simp; done) | (split <;> omega)
      rw [e2, h]
      rw [hq] at *
      subst e
      exact fromHsl_2 h0 h1 h2 al _ _ _ _ _ _ _ _ w rfl hAb rfl hy yb yb2 rfl rfl rfl (by rw [Int.tdiv_eq_ediv_of_nonneg (by omega)]; omega) (by omega) (by omega) rfl rfl rfl
    · have e2 : fallV T = 65536 - (6 * T - 196608) := by unfold fallV; rw [h]; first | omega | (simp; done) | (split <;> omega)
      rw [e2, h]
      rw [hq] at *
      subst e
      exact fromHsl_3 h0 h1 h2 al _ _ _ _ _ _ _ _ w rfl hAb rfl hy yb yb2 rfl rfl rfl (by rw [Int.tdiv_eq_ediv_of_nonneg (by omega)]; omega) (by omega) (by omega) rfl rfl rfl
    · have e2 : fallV T = 6 * T - 262144 := by unfold fallV; rw [h]; first | omega | (simp; done) | (split <;> omega)
      rw [e2, h]
      rw [hq] at *
      subst e
      exact fromHsl_4 h0 h1 h2 al _ _ _ _ _ _ _ _ w rfl hAb rfl hy yb yb2 rfl rfl rfl (by rw [Int.tdiv_eq_ediv_of_nonneg (by omega)]; omega) (by omega) (by omega) rfl rfl rfl
    · have e2 : fallV T = 65536 - (6 * T - 327680) := by unfold fallV; rw [h]; first | omega | (simp; done) | (split <;> omega)
      rw [e2, h]
      rw [hq] at *
      subst e
      exact fromHsl_5 h0 h1 h2 al _ _ _ _ _ _ _ _ w rfl hAb rfl hy yb yb2 rfl rfl rfl (by rw [Int.tdiv_eq_ediv_of_nonneg (by omega)]; omega) (by omega) (by omega) rfl rfl rfl
end Go.Proofs.Ytmgpmpiondciiaa.Adj
