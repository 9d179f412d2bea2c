/- adjust.ToHsl and adjust.FromHsl as contracts. No condition but the bounds of each theorem. -/
import Derived.Test.YtmgpmpiondciiaaAdjQuiet
namespace Go.Proofs.Ytmgpmpiondciiaa.Adj
open Go.RowKit Go.Proofs.Ytmgpmpiondciiaa.PAdjustImages Go.Proofs.YtmgpmpiondciiaaW.PrintWords Go.Proofs.YtmgpmpiondciiaaW.PrintMore Go.Proofs.Ytmgpmpiondciiaa.Plain
attribute [local go_sem] max2_int min2_int max_two min_two max_three min_three
/-- Four stores into one block: other blocks read as they did, no mark turns. -/
theorem keep4 {w w2 : World} {b : Nat} {p0 p1 p2 p3 : Value} (h : (((w.setCell ⟨b, 0, none⟩ p0).setCell ⟨b, 1, none⟩ p1).setCell ⟨b, 2, none⟩ p2).setCell ⟨b, 3, none⟩ p3 = w2) :
    (∀ (a : Addr) (v : Value), b ≠ a.block → w.cell? a = some v → w2.cell? a = some v) ∧ (∀ a : Addr, w.frozen? a = false → w2.frozen? a = false) := by
  subst h
  refine ⟨fun a v hb hv => ?_, fun a hf => ?_⟩
  · rw [World.cell?_setCell_far _ _ _ _ hb, World.cell?_setCell_far _ _ _ _ hb, World.cell?_setCell_far _ _ _ _ hb, World.cell?_setCell_far _ _ _ _ hb]
    exact hv
  · rw [World.frozen?_setCell, World.frozen?_setCell, World.frozen?_setCell, World.frozen?_setCell]
    exact hf
theorem put4 {w w2 : World} {b : Nat} {q0 q1 q2 q3 p0 p1 p2 p3 : Value} (c0 : w.cell? ⟨b, 0, none⟩ = some q0) (c1 : w.cell? ⟨b, 1, none⟩ = some q1) (c2 : w.cell? ⟨b, 2, none⟩ = some q2) (c3 : w.cell? ⟨b, 3, none⟩ = some q3)
    (h : (((w.setCell ⟨b, 0, none⟩ p0).setCell ⟨b, 1, none⟩ p1).setCell ⟨b, 2, none⟩ p2).setCell ⟨b, 3, none⟩ p3 = w2) :
    w2.cell? ⟨b, 0, none⟩ = some p0 ∧ w2.cell? ⟨b, 1, none⟩ = some p1 ∧ w2.cell? ⟨b, 2, none⟩ = some p2 ∧ w2.cell? ⟨b, 3, none⟩ = some p3 := by
  subst h
  refine ⟨?_, ?_, ?_, ?_⟩ <;> simp [go_sem, c0, c1, c2, c3]
/-! ### ToHsl -/
def most (r g b : Int) : Int := mx (mx r g) b
def least (r g b : Int) : Int := mn (mn r g) b
theorem most_spec (r g b : Int) : r ≤ most r g b ∧ g ≤ most r g b ∧ b ≤ most r g b ∧ (most r g b = r ∨ most r g b = g ∨ most r g b = b) := by
  unfold most mx
  repeat' split
  all_goals omega
theorem least_spec (r g b : Int) : least r g b ≤ r ∧ least r g b ≤ g ∧ least r g b ≤ b ∧ (least r g b = r ∨ least r g b = g ∨ least r g b = b) := by
  unfold least mn
  repeat' split
  all_goals omega
def turnV (r g b : Int) : Int :=
  if most r g b = r then g - b else if most r g b = g then 2 * (most r g b - least r g b) + b - r else 4 * (most r g b - least r g b) + r - g
def wide (d : Int) : Int := 65535 - mx d (-d)
def hueV (r g b : Int) : Int := if most r g b - least r g b = 0 then 0 else rdiv (65536 * turnV r g b) (6 * (most r g b - least r g b)) % 65536
def satV (r g b : Int) : Int := if most r g b - least r g b = 0 then 0 else rdiv ((most r g b - least r g b) * 65535) (wide (most r g b + least r g b - 65535))
def ligV (r g b : Int) : Int := rdiv (most r g b + least r g b) 2


set_option maxRecDepth 100000 in
set_option maxHeartbeats 3200000 in
theorem toHsl_gray (R0 G0 B0 A0 r g b a M m L : Int) (w : World) (V : Vld r g b a) (e0 : lim R0 = r) (e1 : lim G0 = g) (e2 : lim B0 = b) (e3 : lim A0 = a) (hM : most r g b = M) (hm : least r g b = m) (hL : rdiv (M + m) 2 = L) (q0 : (M - m == 0) = true) :
    Calls Try.prog 40 #[.agg #[.int .i64 R0, .int .i64 G0, .int .i64 B0, .int .i64 A0]] w fun e w' => e = .returned (.agg #[.int .i64 0, .int .i64 0, .int .i64 L]) ∧ Below w.heap.size w w' := by
  obtain ⟨r0, r1, g0, g1, b0, b1, a0, a1⟩ := V
  obtain ⟨m1, m2, m3, m4⟩ := most_spec r g b
  obtain ⟨n1, n2, n3, n4⟩ := least_spec r g b
  rw [hM] at m1 m2 m3 m4
  rw [hm] at n1 n2 n3 n4
  obtain ⟨t1, ht1⟩ : ∃ z, (if r < g then g else r) = z := ⟨_, rfl⟩
  have hM2 : (if t1 < b then b else t1) = M := by rw [← hM, ← ht1]; rfl
  obtain ⟨t2, ht2⟩ : ∃ z, (if g < r then g else r) = z := ⟨_, rfl⟩
  have hm2 : (if b < t2 then b else t2) = m := by rw [← hm, ← ht2]; rfl
  clear hM hm
  have HL : Aside0 (∀ w, Calls Try.prog 62 #[.agg #[.int .i64 R0, .int .i64 G0, .int .i64 B0, .int .i64 A0]] w fun e w' => e = .returned (.agg #[.int .i64 r, .int .i64 g, .int .i64 b, .int .i64 a]) ∧ Below w.heap.size w w') := ⟨fun w => by
    have := Limit_any R0 G0 B0 A0 w
    rw [e0, e1, e2, e3] at this
    exact this⟩
  clear e0 e1 e2 e3
  have bM : M ≤ 65535 := by omega
  have bm : 0 ≤ m := by omega
  have hl := fun w => divQ (M + m) 2 w (by omega) (by omega) (by omega) (by omega)
  have H2 := Lib.hid hl
  have HLL := Aside0.mk hL
  clear hl hL
  clear m4 n4
  have HB := Aside0.mk (Below.refl w.heap.size w)
  go_enter Try.func40, Try.ntmps40
  go_wp2_with fail
  refine (HL.out _).mono ?_
  rintro e w1 ⟨rfl, hb1⟩
  have HB1 : Aside0 (Below w.heap.size w w1) := ⟨step (by repeat (first | exact HB.out | refine below_alloc ?_ _)) hb1⟩
  have c0 : w1.cell? ⟨w.heap.size, 0, none⟩ = some (.int .i64 R0) := kept hb1 (by simp)
  have c1 : w1.cell? ⟨w.heap.size, 1, none⟩ = some (.int .i64 G0) := kept hb1 (by simp)
  have c2 : w1.cell? ⟨w.heap.size, 2, none⟩ = some (.int .i64 B0) := kept hb1 (by simp)
  have c3 : w1.cell? ⟨w.heap.size, 3, none⟩ = some (.int .i64 A0) := kept hb1 (by simp)
  have f0 : w1.frozen? ⟨w.heap.size, 0, none⟩ = false := keptF hb1 (.int .i64 R0) (by simp) (by simp)
  have f1 : w1.frozen? ⟨w.heap.size, 1, none⟩ = false := keptF hb1 (.int .i64 G0) (by simp) (by simp)
  have f2 : w1.frozen? ⟨w.heap.size, 2, none⟩ = false := keptF hb1 (.int .i64 B0) (by simp) (by simp)
  have f3 : w1.frozen? ⟨w.heap.size, 3, none⟩ = false := keptF hb1 (.int .i64 A0) (by simp) (by simp)
  have y0 : w1.cell? ⟨w.heap.size + 1, 0, none⟩ = some (.int .i64 0) := kept hb1 (by simp)
  have y1 : w1.cell? ⟨w.heap.size + 1, 1, none⟩ = some (.int .i64 0) := kept hb1 (by simp)
  have y2 : w1.cell? ⟨w.heap.size + 1, 2, none⟩ = some (.int .i64 0) := kept hb1 (by simp)
  have x0 : w1.frozen? ⟨w.heap.size + 1, 0, none⟩ = false := keptF hb1 (.int .i64 0) (by simp) (by simp)
  have x1 : w1.frozen? ⟨w.heap.size + 1, 1, none⟩ = false := keptF hb1 (.int .i64 0) (by simp) (by simp)
  have x2 : w1.frozen? ⟨w.heap.size + 1, 2, none⟩ = false := keptF hb1 (.int .i64 0) (by simp) (by simp)
  clear hb1
  go_wp2
  generalize hw2 : ((((w1.setCell ⟨w.heap.size, 0, none⟩ (.int .i64 r)).setCell ⟨w.heap.size, 1, none⟩ (.int .i64 g)).setCell ⟨w.heap.size, 2, none⟩ (.int .i64 b)).setCell ⟨w.heap.size, 3, none⟩ (.int .i64 a)) = w2
  have d0 : w2.cell? ⟨w.heap.size, 0, none⟩ = some (.int .i64 r) := (put4 c0 c1 c2 c3 hw2).1
  have d1 : w2.cell? ⟨w.heap.size, 1, none⟩ = some (.int .i64 g) := (put4 c0 c1 c2 c3 hw2).2.1
  have d2 : w2.cell? ⟨w.heap.size, 2, none⟩ = some (.int .i64 b) := (put4 c0 c1 c2 c3 hw2).2.2.1
  have v0 : w2.cell? ⟨w.heap.size + 1, 0, none⟩ = some (.int .i64 0) := (keep4 hw2).1 _ _ (by simp) y0
  have v1 : w2.cell? ⟨w.heap.size + 1, 1, none⟩ = some (.int .i64 0) := (keep4 hw2).1 _ _ (by simp) y1
  have v2 : w2.cell? ⟨w.heap.size + 1, 2, none⟩ = some (.int .i64 0) := (keep4 hw2).1 _ _ (by simp) y2
  have u0 : w2.frozen? ⟨w.heap.size + 1, 0, none⟩ = false := (keep4 hw2).2 _ x0
  have u1 : w2.frozen? ⟨w.heap.size + 1, 1, none⟩ = false := (keep4 hw2).2 _ x1
  have u2 : w2.frozen? ⟨w.heap.size + 1, 2, none⟩ = false := (keep4 hw2).2 _ x2
  have HB2 : Aside0 (Below w.heap.size w w2) := ⟨by
    rw [← hw2]
    repeat (first | exact HB1.out | exact Nat.le_refl _ | refine below_set ?_ (Nat.le_refl _))⟩
  clear hw2 c0 c1 c2 c3 f0 f1 f2 f3 y0 y1 y2 x0 x1 x2 HB1
  go_quiet (fail)
  clear ht1 ht2 hM2 hm2
  go_wp2_with fail
  refine (H2.out _).mono ?_
  rintro e w3 ⟨rfl, m3', rfl⟩
  rw [HLL.out]
  dsimp only
  go_wp2_with fail
  refine bodyPost_ret (v := .agg #[.int .i64 0, .int .i64 0, .int .i64 L]) (by simp [results, Try.results40, go_sem, v0, v1, v2]) rfl ⟨rfl, ?_⟩
  repeat (first | exact HB2.out | exact Nat.le_succ _ | refine below_set ?_ (Nat.le_succ _) | refine pw_below_drewN ?_ _ | refine below_drew1 ?_)

set_option maxRecDepth 100000 in
set_option maxHeartbeats 3200000 in
theorem toHsl_r (R0 G0 B0 A0 r g b a M m L z y S : Int) (w : World) (V : Vld r g b a) (e0 : lim R0 = r) (e1 : lim G0 = g) (e2 : lim B0 = b) (e3 : lim A0 = a) (hM : most r g b = M) (hm : least r g b = m) (hL : rdiv (M + m) 2 = L) (q0 : (M - m == 0) = false) (q1 : (M == r) = true) (hz : rdiv (65536 * (g - b)) (6 * (M - m)) = z) (hy : z.tmod 65536 = y) (q9 : ¬ y < 0) (hS : rdiv ((M - m) * 65535) (wide (M + m - 65535)) = S) :
    Calls Try.prog 40 #[.agg #[.int .i64 R0, .int .i64 G0, .int .i64 B0, .int .i64 A0]] w fun e w' => e = .returned (.agg #[.int .i64 y, .int .i64 S, .int .i64 L]) ∧ Below w.heap.size w w' := by
  obtain ⟨r0, r1, g0, g1, b0, b1, a0, a1⟩ := V
  obtain ⟨m1, m2, m3, m4⟩ := most_spec r g b
  obtain ⟨n1, n2, n3, n4⟩ := least_spec r g b
  rw [hM] at m1 m2 m3 m4
  rw [hm] at n1 n2 n3 n4
  obtain ⟨t1, ht1⟩ : ∃ z, (if r < g then g else r) = z := ⟨_, rfl⟩
  have hM2 : (if t1 < b then b else t1) = M := by rw [← hM, ← ht1]; rfl
  obtain ⟨t2, ht2⟩ : ∃ z, (if g < r then g else r) = z := ⟨_, rfl⟩
  have hm2 : (if b < t2 then b else t2) = m := by rw [← hm, ← ht2]; rfl
  clear hM hm
  have HL : Aside0 (∀ w, Calls Try.prog 62 #[.agg #[.int .i64 R0, .int .i64 G0, .int .i64 B0, .int .i64 A0]] w fun e w' => e = .returned (.agg #[.int .i64 r, .int .i64 g, .int .i64 b, .int .i64 a]) ∧ Below w.heap.size w w') := ⟨fun w => by
    have := Limit_any R0 G0 B0 A0 w
    rw [e0, e1, e2, e3] at this
    exact this⟩
  clear e0 e1 e2 e3
  have bM : M ≤ 65535 := by omega
  have bm : 0 ≤ m := by omega
  have hl := fun w => divQ (M + m) 2 w (by omega) (by omega) (by omega) (by omega)
  have H2 := Lib.hid hl
  have HLL := Aside0.mk hL
  clear hl hL
  have hC : 0 < M - m := by
    have : M - m ≠ 0 := by simpa using q0
    omega
  obtain ⟨E, hE⟩ : ∃ z, (if M + m - 65535 < -(M + m - 65535) then -(M + m - 65535) else M + m - 65535) = z := ⟨_, rfl⟩
  have hW : wide (M + m - 65535) = 65535 - E := by unfold wide mx; rw [hE]
  rw [hW] at hS
  have hE0 : E ≤ 65535 - (M - m) := by
    rw [← hE]
    split <;> omega
  have hE1 : 0 ≤ E := by
    rw [← hE]
    split <;> omega
  have D := fun w => divQ (65536 * (g - b)) (6 * (M - m)) w (by omega) (by omega) (by omega) (by omega)
  have D2 := fun w => divQ ((M - m) * 65535) (65535 - E) w (by omega) (by omega) (by omega) (by omega)
  have HD := Lib.hid D
  have HE := Lib.hid D2
  have HZ := Aside0.mk hz
  have HS := Aside0.mk hS
  obtain ⟨tp, tn⟩ := floor_parts z 65536
  have by0 : -65536 < y ∧ y < 65536 := by
    rw [← hy]
    rcases (by omega : 0 ≤ z ∨ z < 0) with h | h
    · rw [(tp h).2]; omega
    · rw [(tn h).2]; omega
  obtain ⟨by0, by1⟩ := by0
  clear tp tn
  clear D D2 hz hS hW
  clear m4 n4
  have HB := Aside0.mk (Below.refl w.heap.size w)
  go_enter Try.func40, Try.ntmps40
  go_wp2_with fail
  refine (HL.out _).mono ?_
  rintro e w1 ⟨rfl, hb1⟩
  have HB1 : Aside0 (Below w.heap.size w w1) := ⟨step (by repeat (first | exact HB.out | refine below_alloc ?_ _)) hb1⟩
  have c0 : w1.cell? ⟨w.heap.size, 0, none⟩ = some (.int .i64 R0) := kept hb1 (by simp)
  have c1 : w1.cell? ⟨w.heap.size, 1, none⟩ = some (.int .i64 G0) := kept hb1 (by simp)
  have c2 : w1.cell? ⟨w.heap.size, 2, none⟩ = some (.int .i64 B0) := kept hb1 (by simp)
  have c3 : w1.cell? ⟨w.heap.size, 3, none⟩ = some (.int .i64 A0) := kept hb1 (by simp)
  have f0 : w1.frozen? ⟨w.heap.size, 0, none⟩ = false := keptF hb1 (.int .i64 R0) (by simp) (by simp)
  have f1 : w1.frozen? ⟨w.heap.size, 1, none⟩ = false := keptF hb1 (.int .i64 G0) (by simp) (by simp)
  have f2 : w1.frozen? ⟨w.heap.size, 2, none⟩ = false := keptF hb1 (.int .i64 B0) (by simp) (by simp)
  have f3 : w1.frozen? ⟨w.heap.size, 3, none⟩ = false := keptF hb1 (.int .i64 A0) (by simp) (by simp)
  have y0 : w1.cell? ⟨w.heap.size + 1, 0, none⟩ = some (.int .i64 0) := kept hb1 (by simp)
  have y1 : w1.cell? ⟨w.heap.size + 1, 1, none⟩ = some (.int .i64 0) := kept hb1 (by simp)
  have y2 : w1.cell? ⟨w.heap.size + 1, 2, none⟩ = some (.int .i64 0) := kept hb1 (by simp)
  have x0 : w1.frozen? ⟨w.heap.size + 1, 0, none⟩ = false := keptF hb1 (.int .i64 0) (by simp) (by simp)
  have x1 : w1.frozen? ⟨w.heap.size + 1, 1, none⟩ = false := keptF hb1 (.int .i64 0) (by simp) (by simp)
  have x2 : w1.frozen? ⟨w.heap.size + 1, 2, none⟩ = false := keptF hb1 (.int .i64 0) (by simp) (by simp)
  clear hb1
  go_wp2
  generalize hw2 : ((((w1.setCell ⟨w.heap.size, 0, none⟩ (.int .i64 r)).setCell ⟨w.heap.size, 1, none⟩ (.int .i64 g)).setCell ⟨w.heap.size, 2, none⟩ (.int .i64 b)).setCell ⟨w.heap.size, 3, none⟩ (.int .i64 a)) = w2
  have d0 : w2.cell? ⟨w.heap.size, 0, none⟩ = some (.int .i64 r) := (put4 c0 c1 c2 c3 hw2).1
  have d1 : w2.cell? ⟨w.heap.size, 1, none⟩ = some (.int .i64 g) := (put4 c0 c1 c2 c3 hw2).2.1
  have d2 : w2.cell? ⟨w.heap.size, 2, none⟩ = some (.int .i64 b) := (put4 c0 c1 c2 c3 hw2).2.2.1
  have v0 : w2.cell? ⟨w.heap.size + 1, 0, none⟩ = some (.int .i64 0) := (keep4 hw2).1 _ _ (by simp) y0
  have v1 : w2.cell? ⟨w.heap.size + 1, 1, none⟩ = some (.int .i64 0) := (keep4 hw2).1 _ _ (by simp) y1
  have v2 : w2.cell? ⟨w.heap.size + 1, 2, none⟩ = some (.int .i64 0) := (keep4 hw2).1 _ _ (by simp) y2
  have u0 : w2.frozen? ⟨w.heap.size + 1, 0, none⟩ = false := (keep4 hw2).2 _ x0
  have u1 : w2.frozen? ⟨w.heap.size + 1, 1, none⟩ = false := (keep4 hw2).2 _ x1
  have u2 : w2.frozen? ⟨w.heap.size + 1, 2, none⟩ = false := (keep4 hw2).2 _ x2
  have HB2 : Aside0 (Below w.heap.size w w2) := ⟨by
    rw [← hw2]
    repeat (first | exact HB1.out | exact Nat.le_refl _ | refine below_set ?_ (Nat.le_refl _))⟩
  clear hw2 c0 c1 c2 c3 f0 f1 f2 f3 y0 y1 y2 x0 x1 x2 HB1
  go_quiet (fail)
  clear ht1 ht2 hM2 hm2
  go_wp2_with fail
  refine (H2.out _).mono ?_
  rintro e w3 ⟨rfl, m3', rfl⟩
  rw [HLL.out]
  dsimp only
  go_wp2_with fail
  refine (HD.out _).mono ?_
  rintro e w4 ⟨rfl, m4, rfl⟩
  rw [HZ.out]
  dsimp only
  go_wp2_with fail
  refine (HE.out _).mono ?_
  rintro e w5 ⟨rfl, m5, rfl⟩
  rw [HS.out]
  dsimp only
  go_wp2_with fail
  refine bodyPost_ret (v := .agg #[.int .i64 y, .int .i64 S, .int .i64 L]) (by simp [results, Try.results40, go_sem, v0, v1, v2]) rfl ⟨rfl, ?_⟩
  repeat (first | exact HB2.out | exact Nat.le_succ _ | refine below_set ?_ (Nat.le_succ _) | refine pw_below_drewN ?_ _ | refine below_drew1 ?_)

set_option maxRecDepth 100000 in
set_option maxHeartbeats 3200000 in
theorem toHsl_rn (R0 G0 B0 A0 r g b a M m L z y S : Int) (w : World) (V : Vld r g b a) (e0 : lim R0 = r) (e1 : lim G0 = g) (e2 : lim B0 = b) (e3 : lim A0 = a) (hM : most r g b = M) (hm : least r g b = m) (hL : rdiv (M + m) 2 = L) (q0 : (M - m == 0) = false) (q1 : (M == r) = true) (hz : rdiv (65536 * (g - b)) (6 * (M - m)) = z) (hy : z.tmod 65536 = y) (q9 : y < 0) (hS : rdiv ((M - m) * 65535) (wide (M + m - 65535)) = S) :
    Calls Try.prog 40 #[.agg #[.int .i64 R0, .int .i64 G0, .int .i64 B0, .int .i64 A0]] w fun e w' => e = .returned (.agg #[.int .i64 (y + 65536), .int .i64 S, .int .i64 L]) ∧ Below w.heap.size w w' := by
  obtain ⟨r0, r1, g0, g1, b0, b1, a0, a1⟩ := V
  obtain ⟨m1, m2, m3, m4⟩ := most_spec r g b
  obtain ⟨n1, n2, n3, n4⟩ := least_spec r g b
  rw [hM] at m1 m2 m3 m4
  rw [hm] at n1 n2 n3 n4
  obtain ⟨t1, ht1⟩ : ∃ z, (if r < g then g else r) = z := ⟨_, rfl⟩
  have hM2 : (if t1 < b then b else t1) = M := by rw [← hM, ← ht1]; rfl
  obtain ⟨t2, ht2⟩ : ∃ z, (if g < r then g else r) = z := ⟨_, rfl⟩
  have hm2 : (if b < t2 then b else t2) = m := by rw [← hm, ← ht2]; rfl
  clear hM hm
  have HL : Aside0 (∀ w, Calls Try.prog 62 #[.agg #[.int .i64 R0, .int .i64 G0, .int .i64 B0, .int .i64 A0]] w fun e w' => e = .returned (.agg #[.int .i64 r, .int .i64 g, .int .i64 b, .int .i64 a]) ∧ Below w.heap.size w w') := ⟨fun w => by
    have := Limit_any R0 G0 B0 A0 w
    rw [e0, e1, e2, e3] at this
    exact this⟩
  clear e0 e1 e2 e3
  have bM : M ≤ 65535 := by omega
  have bm : 0 ≤ m := by omega
  have hl := fun w => divQ (M + m) 2 w (by omega) (by omega) (by omega) (by omega)
  have H2 := Lib.hid hl
  have HLL := Aside0.mk hL
  clear hl hL
  have hC : 0 < M - m := by
    have : M - m ≠ 0 := by simpa using q0
    omega
  obtain ⟨E, hE⟩ : ∃ z, (if M + m - 65535 < -(M + m - 65535) then -(M + m - 65535) else M + m - 65535) = z := ⟨_, rfl⟩
  have hW : wide (M + m - 65535) = 65535 - E := by unfold wide mx; rw [hE]
  rw [hW] at hS
  have hE0 : E ≤ 65535 - (M - m) := by
    rw [← hE]
    split <;> omega
  have hE1 : 0 ≤ E := by
    rw [← hE]
    split <;> omega
  have D := fun w => divQ (65536 * (g - b)) (6 * (M - m)) w (by omega) (by omega) (by omega) (by omega)
  have D2 := fun w => divQ ((M - m) * 65535) (65535 - E) w (by omega) (by omega) (by omega) (by omega)
  have HD := Lib.hid D
  have HE := Lib.hid D2
  have HZ := Aside0.mk hz
  have HS := Aside0.mk hS
  obtain ⟨tp, tn⟩ := floor_parts z 65536
  have by0 : -65536 < y ∧ y < 65536 := by
    rw [← hy]
    rcases (by omega : 0 ≤ z ∨ z < 0) with h | h
    · rw [(tp h).2]; omega
    · rw [(tn h).2]; omega
  obtain ⟨by0, by1⟩ := by0
  clear tp tn
  clear D D2 hz hS hW
  clear m4 n4
  have HB := Aside0.mk (Below.refl w.heap.size w)
  go_enter Try.func40, Try.ntmps40
  go_wp2_with fail
  refine (HL.out _).mono ?_
  rintro e w1 ⟨rfl, hb1⟩
  have HB1 : Aside0 (Below w.heap.size w w1) := ⟨step (by repeat (first | exact HB.out | refine below_alloc ?_ _)) hb1⟩
  have c0 : w1.cell? ⟨w.heap.size, 0, none⟩ = some (.int .i64 R0) := kept hb1 (by simp)
  have c1 : w1.cell? ⟨w.heap.size, 1, none⟩ = some (.int .i64 G0) := kept hb1 (by simp)
  have c2 : w1.cell? ⟨w.heap.size, 2, none⟩ = some (.int .i64 B0) := kept hb1 (by simp)
  have c3 : w1.cell? ⟨w.heap.size, 3, none⟩ = some (.int .i64 A0) := kept hb1 (by simp)
  have f0 : w1.frozen? ⟨w.heap.size, 0, none⟩ = false := keptF hb1 (.int .i64 R0) (by simp) (by simp)
  have f1 : w1.frozen? ⟨w.heap.size, 1, none⟩ = false := keptF hb1 (.int .i64 G0) (by simp) (by simp)
  have f2 : w1.frozen? ⟨w.heap.size, 2, none⟩ = false := keptF hb1 (.int .i64 B0) (by simp) (by simp)
  have f3 : w1.frozen? ⟨w.heap.size, 3, none⟩ = false := keptF hb1 (.int .i64 A0) (by simp) (by simp)
  have y0 : w1.cell? ⟨w.heap.size + 1, 0, none⟩ = some (.int .i64 0) := kept hb1 (by simp)
  have y1 : w1.cell? ⟨w.heap.size + 1, 1, none⟩ = some (.int .i64 0) := kept hb1 (by simp)
  have y2 : w1.cell? ⟨w.heap.size + 1, 2, none⟩ = some (.int .i64 0) := kept hb1 (by simp)
  have x0 : w1.frozen? ⟨w.heap.size + 1, 0, none⟩ = false := keptF hb1 (.int .i64 0) (by simp) (by simp)
  have x1 : w1.frozen? ⟨w.heap.size + 1, 1, none⟩ = false := keptF hb1 (.int .i64 0) (by simp) (by simp)
  have x2 : w1.frozen? ⟨w.heap.size + 1, 2, none⟩ = false := keptF hb1 (.int .i64 0) (by simp) (by simp)
  clear hb1
  go_wp2
  generalize hw2 : ((((w1.setCell ⟨w.heap.size, 0, none⟩ (.int .i64 r)).setCell ⟨w.heap.size, 1, none⟩ (.int .i64 g)).setCell ⟨w.heap.size, 2, none⟩ (.int .i64 b)).setCell ⟨w.heap.size, 3, none⟩ (.int .i64 a)) = w2
  have d0 : w2.cell? ⟨w.heap.size, 0, none⟩ = some (.int .i64 r) := (put4 c0 c1 c2 c3 hw2).1
  have d1 : w2.cell? ⟨w.heap.size, 1, none⟩ = some (.int .i64 g) := (put4 c0 c1 c2 c3 hw2).2.1
  have d2 : w2.cell? ⟨w.heap.size, 2, none⟩ = some (.int .i64 b) := (put4 c0 c1 c2 c3 hw2).2.2.1
  have v0 : w2.cell? ⟨w.heap.size + 1, 0, none⟩ = some (.int .i64 0) := (keep4 hw2).1 _ _ (by simp) y0
  have v1 : w2.cell? ⟨w.heap.size + 1, 1, none⟩ = some (.int .i64 0) := (keep4 hw2).1 _ _ (by simp) y1
  have v2 : w2.cell? ⟨w.heap.size + 1, 2, none⟩ = some (.int .i64 0) := (keep4 hw2).1 _ _ (by simp) y2
  have u0 : w2.frozen? ⟨w.heap.size + 1, 0, none⟩ = false := (keep4 hw2).2 _ x0
  have u1 : w2.frozen? ⟨w.heap.size + 1, 1, none⟩ = false := (keep4 hw2).2 _ x1
  have u2 : w2.frozen? ⟨w.heap.size + 1, 2, none⟩ = false := (keep4 hw2).2 _ x2
  have HB2 : Aside0 (Below w.heap.size w w2) := ⟨by
    rw [← hw2]
    repeat (first | exact HB1.out | exact Nat.le_refl _ | refine below_set ?_ (Nat.le_refl _))⟩
  clear hw2 c0 c1 c2 c3 f0 f1 f2 f3 y0 y1 y2 x0 x1 x2 HB1
  go_quiet (fail)
  clear ht1 ht2 hM2 hm2
  go_wp2_with fail
  refine (H2.out _).mono ?_
  rintro e w3 ⟨rfl, m3', rfl⟩
  rw [HLL.out]
  dsimp only
  go_wp2_with fail
  refine (HD.out _).mono ?_
  rintro e w4 ⟨rfl, m4, rfl⟩
  rw [HZ.out]
  dsimp only
  go_wp2_with fail
  refine (HE.out _).mono ?_
  rintro e w5 ⟨rfl, m5, rfl⟩
  rw [HS.out]
  dsimp only
  go_wp2_with fail
  refine bodyPost_ret (v := .agg #[.int .i64 (y + 65536), .int .i64 S, .int .i64 L]) (by simp [results, Try.results40, go_sem, v0, v1, v2]) rfl ⟨rfl, ?_⟩
  repeat (first | exact HB2.out | exact Nat.le_succ _ | refine below_set ?_ (Nat.le_succ _) | refine pw_below_drewN ?_ _ | refine below_drew1 ?_)

set_option maxRecDepth 100000 in
set_option maxHeartbeats 3200000 in
theorem toHsl_g (R0 G0 B0 A0 r g b a M m L z y S : Int) (w : World) (V : Vld r g b a) (e0 : lim R0 = r) (e1 : lim G0 = g) (e2 : lim B0 = b) (e3 : lim A0 = a) (hM : most r g b = M) (hm : least r g b = m) (hL : rdiv (M + m) 2 = L) (q0 : (M - m == 0) = false) (q1 : (M == r) = false) (q2 : (M == g) = true) (hz : rdiv (65536 * (2 * (M - m) + b - r)) (6 * (M - m)) = z) (hy : z.tmod 65536 = y) (q9 : ¬ y < 0) (hS : rdiv ((M - m) * 65535) (wide (M + m - 65535)) = S) :
    Calls Try.prog 40 #[.agg #[.int .i64 R0, .int .i64 G0, .int .i64 B0, .int .i64 A0]] w fun e w' => e = .returned (.agg #[.int .i64 y, .int .i64 S, .int .i64 L]) ∧ Below w.heap.size w w' := by
  obtain ⟨r0, r1, g0, g1, b0, b1, a0, a1⟩ := V
  obtain ⟨m1, m2, m3, m4⟩ := most_spec r g b
  obtain ⟨n1, n2, n3, n4⟩ := least_spec r g b
  rw [hM] at m1 m2 m3 m4
  rw [hm] at n1 n2 n3 n4
  obtain ⟨t1, ht1⟩ : ∃ z, (if r < g then g else r) = z := ⟨_, rfl⟩
  have hM2 : (if t1 < b then b else t1) = M := by rw [← hM, ← ht1]; rfl
  obtain ⟨t2, ht2⟩ : ∃ z, (if g < r then g else r) = z := ⟨_, rfl⟩
  have hm2 : (if b < t2 then b else t2) = m := by rw [← hm, ← ht2]; rfl
  clear hM hm
  have HL : Aside0 (∀ w, Calls Try.prog 62 #[.agg #[.int .i64 R0, .int .i64 G0, .int .i64 B0, .int .i64 A0]] w fun e w' => e = .returned (.agg #[.int .i64 r, .int .i64 g, .int .i64 b, .int .i64 a]) ∧ Below w.heap.size w w') := ⟨fun w => by
    have := Limit_any R0 G0 B0 A0 w
    rw [e0, e1, e2, e3] at this
    exact this⟩
  clear e0 e1 e2 e3
  have bM : M ≤ 65535 := by omega
  have bm : 0 ≤ m := by omega
  have hl := fun w => divQ (M + m) 2 w (by omega) (by omega) (by omega) (by omega)
  have H2 := Lib.hid hl
  have HLL := Aside0.mk hL
  clear hl hL
  have hC : 0 < M - m := by
    have : M - m ≠ 0 := by simpa using q0
    omega
  obtain ⟨E, hE⟩ : ∃ z, (if M + m - 65535 < -(M + m - 65535) then -(M + m - 65535) else M + m - 65535) = z := ⟨_, rfl⟩
  have hW : wide (M + m - 65535) = 65535 - E := by unfold wide mx; rw [hE]
  rw [hW] at hS
  have hE0 : E ≤ 65535 - (M - m) := by
    rw [← hE]
    split <;> omega
  have hE1 : 0 ≤ E := by
    rw [← hE]
    split <;> omega
  have D := fun w => divQ (65536 * (2 * (M - m) + b - r)) (6 * (M - m)) w (by omega) (by omega) (by omega) (by omega)
  have D2 := fun w => divQ ((M - m) * 65535) (65535 - E) w (by omega) (by omega) (by omega) (by omega)
  have HD := Lib.hid D
  have HE := Lib.hid D2
  have HZ := Aside0.mk hz
  have HS := Aside0.mk hS
  obtain ⟨tp, tn⟩ := floor_parts z 65536
  have by0 : -65536 < y ∧ y < 65536 := by
    rw [← hy]
    rcases (by omega : 0 ≤ z ∨ z < 0) with h | h
    · rw [(tp h).2]; omega
    · rw [(tn h).2]; omega
  obtain ⟨by0, by1⟩ := by0
  clear tp tn
  clear D D2 hz hS hW
  clear m4 n4
  have HB := Aside0.mk (Below.refl w.heap.size w)
  go_enter Try.func40, Try.ntmps40
  go_wp2_with fail
  refine (HL.out _).mono ?_
  rintro e w1 ⟨rfl, hb1⟩
  have HB1 : Aside0 (Below w.heap.size w w1) := ⟨step (by repeat (first | exact HB.out | refine below_alloc ?_ _)) hb1⟩
  have c0 : w1.cell? ⟨w.heap.size, 0, none⟩ = some (.int .i64 R0) := kept hb1 (by simp)
  have c1 : w1.cell? ⟨w.heap.size, 1, none⟩ = some (.int .i64 G0) := kept hb1 (by simp)
  have c2 : w1.cell? ⟨w.heap.size, 2, none⟩ = some (.int .i64 B0) := kept hb1 (by simp)
  have c3 : w1.cell? ⟨w.heap.size, 3, none⟩ = some (.int .i64 A0) := kept hb1 (by simp)
  have f0 : w1.frozen? ⟨w.heap.size, 0, none⟩ = false := keptF hb1 (.int .i64 R0) (by simp) (by simp)
  have f1 : w1.frozen? ⟨w.heap.size, 1, none⟩ = false := keptF hb1 (.int .i64 G0) (by simp) (by simp)
  have f2 : w1.frozen? ⟨w.heap.size, 2, none⟩ = false := keptF hb1 (.int .i64 B0) (by simp) (by simp)
  have f3 : w1.frozen? ⟨w.heap.size, 3, none⟩ = false := keptF hb1 (.int .i64 A0) (by simp) (by simp)
  have y0 : w1.cell? ⟨w.heap.size + 1, 0, none⟩ = some (.int .i64 0) := kept hb1 (by simp)
  have y1 : w1.cell? ⟨w.heap.size + 1, 1, none⟩ = some (.int .i64 0) := kept hb1 (by simp)
  have y2 : w1.cell? ⟨w.heap.size + 1, 2, none⟩ = some (.int .i64 0) := kept hb1 (by simp)
  have x0 : w1.frozen? ⟨w.heap.size + 1, 0, none⟩ = false := keptF hb1 (.int .i64 0) (by simp) (by simp)
  have x1 : w1.frozen? ⟨w.heap.size + 1, 1, none⟩ = false := keptF hb1 (.int .i64 0) (by simp) (by simp)
  have x2 : w1.frozen? ⟨w.heap.size + 1, 2, none⟩ = false := keptF hb1 (.int .i64 0) (by simp) (by simp)
  clear hb1
  go_wp2
  generalize hw2 : ((((w1.setCell ⟨w.heap.size, 0, none⟩ (.int .i64 r)).setCell ⟨w.heap.size, 1, none⟩ (.int .i64 g)).setCell ⟨w.heap.size, 2, none⟩ (.int .i64 b)).setCell ⟨w.heap.size, 3, none⟩ (.int .i64 a)) = w2
  have d0 : w2.cell? ⟨w.heap.size, 0, none⟩ = some (.int .i64 r) := (put4 c0 c1 c2 c3 hw2).1
  have d1 : w2.cell? ⟨w.heap.size, 1, none⟩ = some (.int .i64 g) := (put4 c0 c1 c2 c3 hw2).2.1
  have d2 : w2.cell? ⟨w.heap.size, 2, none⟩ = some (.int .i64 b) := (put4 c0 c1 c2 c3 hw2).2.2.1
  have v0 : w2.cell? ⟨w.heap.size + 1, 0, none⟩ = some (.int .i64 0) := (keep4 hw2).1 _ _ (by simp) y0
  have v1 : w2.cell? ⟨w.heap.size + 1, 1, none⟩ = some (.int .i64 0) := (keep4 hw2).1 _ _ (by simp) y1
  have v2 : w2.cell? ⟨w.heap.size + 1, 2, none⟩ = some (.int .i64 0) := (keep4 hw2).1 _ _ (by simp) y2
  have u0 : w2.frozen? ⟨w.heap.size + 1, 0, none⟩ = false := (keep4 hw2).2 _ x0
  have u1 : w2.frozen? ⟨w.heap.size + 1, 1, none⟩ = false := (keep4 hw2).2 _ x1
  have u2 : w2.frozen? ⟨w.heap.size + 1, 2, none⟩ = false := (keep4 hw2).2 _ x2
  have HB2 : Aside0 (Below w.heap.size w w2) := ⟨by
    rw [← hw2]
    repeat (first | exact HB1.out | exact Nat.le_refl _ | refine below_set ?_ (Nat.le_refl _))⟩
  clear hw2 c0 c1 c2 c3 f0 f1 f2 f3 y0 y1 y2 x0 x1 x2 HB1
  go_quiet (fail)
  clear ht1 ht2 hM2 hm2
  go_wp2_with fail
  refine (H2.out _).mono ?_
  rintro e w3 ⟨rfl, m3', rfl⟩
  rw [HLL.out]
  dsimp only
  go_wp2_with fail
  refine (HD.out _).mono ?_
  rintro e w4 ⟨rfl, m4, rfl⟩
  rw [HZ.out]
  dsimp only
  go_wp2_with fail
  refine (HE.out _).mono ?_
  rintro e w5 ⟨rfl, m5, rfl⟩
  rw [HS.out]
  dsimp only
  go_wp2_with fail
  refine bodyPost_ret (v := .agg #[.int .i64 y, .int .i64 S, .int .i64 L]) (by simp [results, Try.results40, go_sem, v0, v1, v2]) rfl ⟨rfl, ?_⟩
  repeat (first | exact HB2.out | exact Nat.le_succ _ | refine below_set ?_ (Nat.le_succ _) | refine pw_below_drewN ?_ _ | refine below_drew1 ?_)

set_option maxRecDepth 100000 in
set_option maxHeartbeats 3200000 in
theorem toHsl_b (R0 G0 B0 A0 r g b a M m L z y S : Int) (w : World) (V : Vld r g b a) (e0 : lim R0 = r) (e1 : lim G0 = g) (e2 : lim B0 = b) (e3 : lim A0 = a) (hM : most r g b = M) (hm : least r g b = m) (hL : rdiv (M + m) 2 = L) (q0 : (M - m == 0) = false) (q1 : (M == r) = false) (q2 : (M == g) = false) (hz : rdiv (65536 * (4 * (M - m) + r - g)) (6 * (M - m)) = z) (hy : z.tmod 65536 = y) (q9 : ¬ y < 0) (hS : rdiv ((M - m) * 65535) (wide (M + m - 65535)) = S) :
    Calls Try.prog 40 #[.agg #[.int .i64 R0, .int .i64 G0, .int .i64 B0, .int .i64 A0]] w fun e w' => e = .returned (.agg #[.int .i64 y, .int .i64 S, .int .i64 L]) ∧ Below w.heap.size w w' := by
  obtain ⟨r0, r1, g0, g1, b0, b1, a0, a1⟩ := V
  obtain ⟨m1, m2, m3, m4⟩ := most_spec r g b
  obtain ⟨n1, n2, n3, n4⟩ := least_spec r g b
  rw [hM] at m1 m2 m3 m4
  rw [hm] at n1 n2 n3 n4
  obtain ⟨t1, ht1⟩ : ∃ z, (if r < g then g else r) = z := ⟨_, rfl⟩
  have hM2 : (if t1 < b then b else t1) = M := by rw [← hM, ← ht1]; rfl
  obtain ⟨t2, ht2⟩ : ∃ z, (if g < r then g else r) = z := ⟨_, rfl⟩
  have hm2 : (if b < t2 then b else t2) = m := by rw [← hm, ← ht2]; rfl
  clear hM hm
  have HL : Aside0 (∀ w, Calls Try.prog 62 #[.agg #[.int .i64 R0, .int .i64 G0, .int .i64 B0, .int .i64 A0]] w fun e w' => e = .returned (.agg #[.int .i64 r, .int .i64 g, .int .i64 b, .int .i64 a]) ∧ Below w.heap.size w w') := ⟨fun w => by
    have := Limit_any R0 G0 B0 A0 w
    rw [e0, e1, e2, e3] at this
    exact this⟩
  clear e0 e1 e2 e3
  have bM : M ≤ 65535 := by omega
  have bm : 0 ≤ m := by omega
  have hl := fun w => divQ (M + m) 2 w (by omega) (by omega) (by omega) (by omega)
  have H2 := Lib.hid hl
  have HLL := Aside0.mk hL
  clear hl hL
  have hC : 0 < M - m := by
    have : M - m ≠ 0 := by simpa using q0
    omega
  obtain ⟨E, hE⟩ : ∃ z, (if M + m - 65535 < -(M + m - 65535) then -(M + m - 65535) else M + m - 65535) = z := ⟨_, rfl⟩
  have hW : wide (M + m - 65535) = 65535 - E := by unfold wide mx; rw [hE]
  rw [hW] at hS
  have hE0 : E ≤ 65535 - (M - m) := by
    rw [← hE]
    split <;> omega
  have hE1 : 0 ≤ E := by
    rw [← hE]
    split <;> omega
  have D := fun w => divQ (65536 * (4 * (M - m) + r - g)) (6 * (M - m)) w (by omega) (by omega) (by omega) (by omega)
  have D2 := fun w => divQ ((M - m) * 65535) (65535 - E) w (by omega) (by omega) (by omega) (by omega)
  have HD := Lib.hid D
  have HE := Lib.hid D2
  have HZ := Aside0.mk hz
  have HS := Aside0.mk hS
  obtain ⟨tp, tn⟩ := floor_parts z 65536
  have by0 : -65536 < y ∧ y < 65536 := by
    rw [← hy]
    rcases (by omega : 0 ≤ z ∨ z < 0) with h | h
    · rw [(tp h).2]; omega
    · rw [(tn h).2]; omega
  obtain ⟨by0, by1⟩ := by0
  clear tp tn
  clear D D2 hz hS hW
  clear m4 n4
  have HB := Aside0.mk (Below.refl w.heap.size w)
  go_enter Try.func40, Try.ntmps40
  go_wp2_with fail
  refine (HL.out _).mono ?_
  rintro e w1 ⟨rfl, hb1⟩
  have HB1 : Aside0 (Below w.heap.size w w1) := ⟨step (by repeat (first | exact HB.out | refine below_alloc ?_ _)) hb1⟩
  have c0 : w1.cell? ⟨w.heap.size, 0, none⟩ = some (.int .i64 R0) := kept hb1 (by simp)
  have c1 : w1.cell? ⟨w.heap.size, 1, none⟩ = some (.int .i64 G0) := kept hb1 (by simp)
  have c2 : w1.cell? ⟨w.heap.size, 2, none⟩ = some (.int .i64 B0) := kept hb1 (by simp)
  have c3 : w1.cell? ⟨w.heap.size, 3, none⟩ = some (.int .i64 A0) := kept hb1 (by simp)
  have f0 : w1.frozen? ⟨w.heap.size, 0, none⟩ = false := keptF hb1 (.int .i64 R0) (by simp) (by simp)
  have f1 : w1.frozen? ⟨w.heap.size, 1, none⟩ = false := keptF hb1 (.int .i64 G0) (by simp) (by simp)
  have f2 : w1.frozen? ⟨w.heap.size, 2, none⟩ = false := keptF hb1 (.int .i64 B0) (by simp) (by simp)
  have f3 : w1.frozen? ⟨w.heap.size, 3, none⟩ = false := keptF hb1 (.int .i64 A0) (by simp) (by simp)
  have y0 : w1.cell? ⟨w.heap.size + 1, 0, none⟩ = some (.int .i64 0) := kept hb1 (by simp)
  have y1 : w1.cell? ⟨w.heap.size + 1, 1, none⟩ = some (.int .i64 0) := kept hb1 (by simp)
  have y2 : w1.cell? ⟨w.heap.size + 1, 2, none⟩ = some (.int .i64 0) := kept hb1 (by simp)
  have x0 : w1.frozen? ⟨w.heap.size + 1, 0, none⟩ = false := keptF hb1 (.int .i64 0) (by simp) (by simp)
  have x1 : w1.frozen? ⟨w.heap.size + 1, 1, none⟩ = false := keptF hb1 (.int .i64 0) (by simp) (by simp)
  have x2 : w1.frozen? ⟨w.heap.size + 1, 2, none⟩ = false := keptF hb1 (.int .i64 0) (by simp) (by simp)
  clear hb1
  go_wp2
  generalize hw2 : ((((w1.setCell ⟨w.heap.size, 0, none⟩ (.int .i64 r)).setCell ⟨w.heap.size, 1, none⟩ (.int .i64 g)).setCell ⟨w.heap.size, 2, none⟩ (.int .i64 b)).setCell ⟨w.heap.size, 3, none⟩ (.int .i64 a)) = w2
  have d0 : w2.cell? ⟨w.heap.size, 0, none⟩ = some (.int .i64 r) := (put4 c0 c1 c2 c3 hw2).1
  have d1 : w2.cell? ⟨w.heap.size, 1, none⟩ = some (.int .i64 g) := (put4 c0 c1 c2 c3 hw2).2.1
  have d2 : w2.cell? ⟨w.heap.size, 2, none⟩ = some (.int .i64 b) := (put4 c0 c1 c2 c3 hw2).2.2.1
  have v0 : w2.cell? ⟨w.heap.size + 1, 0, none⟩ = some (.int .i64 0) := (keep4 hw2).1 _ _ (by simp) y0
  have v1 : w2.cell? ⟨w.heap.size + 1, 1, none⟩ = some (.int .i64 0) := (keep4 hw2).1 _ _ (by simp) y1
  have v2 : w2.cell? ⟨w.heap.size + 1, 2, none⟩ = some (.int .i64 0) := (keep4 hw2).1 _ _ (by simp) y2
  have u0 : w2.frozen? ⟨w.heap.size + 1, 0, none⟩ = false := (keep4 hw2).2 _ x0
  have u1 : w2.frozen? ⟨w.heap.size + 1, 1, none⟩ = false := (keep4 hw2).2 _ x1
  have u2 : w2.frozen? ⟨w.heap.size + 1, 2, none⟩ = false := (keep4 hw2).2 _ x2
  have HB2 : Aside0 (Below w.heap.size w w2) := ⟨by
    rw [← hw2]
    repeat (first | exact HB1.out | exact Nat.le_refl _ | refine below_set ?_ (Nat.le_refl _))⟩
  clear hw2 c0 c1 c2 c3 f0 f1 f2 f3 y0 y1 y2 x0 x1 x2 HB1
  go_quiet (fail)
  clear ht1 ht2 hM2 hm2
  go_wp2_with fail
  refine (H2.out _).mono ?_
  rintro e w3 ⟨rfl, m3', rfl⟩
  rw [HLL.out]
  dsimp only
  go_wp2_with fail
  refine (HD.out _).mono ?_
  rintro e w4 ⟨rfl, m4, rfl⟩
  rw [HZ.out]
  dsimp only
  go_wp2_with fail
  refine (HE.out _).mono ?_
  rintro e w5 ⟨rfl, m5, rfl⟩
  rw [HS.out]
  dsimp only
  go_wp2_with fail
  refine bodyPost_ret (v := .agg #[.int .i64 y, .int .i64 S, .int .i64 L]) (by simp [results, Try.results40, go_sem, v0, v1, v2]) rfl ⟨rfl, ?_⟩
  repeat (first | exact HB2.out | exact Nat.le_succ _ | refine below_set ?_ (Nat.le_succ _) | refine pw_below_drewN ?_ _ | refine below_drew1 ?_)

theorem tmod_emod (z : Int) : (z.tmod 65536 < 0 → z % 65536 = z.tmod 65536 + 65536) ∧ (¬ z.tmod 65536 < 0 → z % 65536 = z.tmod 65536) := by
  obtain ⟨tp, tn⟩ := floor_parts z 65536
  rcases (by omega : 0 ≤ z ∨ z < 0) with h | h
  · rw [(tp h).2]; omega
  · rw [(tn h).2]; omega

theorem toHsl_raw (R0 G0 B0 A0 r g b a : Int) (w : World) (V : Vld r g b a) (e0 : lim R0 = r) (e1 : lim G0 = g) (e2 : lim B0 = b) (e3 : lim A0 = a) :
    Calls Try.prog 40 #[.agg #[.int .i64 R0, .int .i64 G0, .int .i64 B0, .int .i64 A0]] w fun e w' => e = .returned (.agg #[.int .i64 (hueV r g b), .int .i64 (satV r g b), .int .i64 (ligV r g b)]) ∧ Below w.heap.size w w' := by
  obtain ⟨M, hM⟩ : ∃ M, most r g b = M := ⟨_, rfl⟩
  obtain ⟨m, hm⟩ : ∃ m, least r g b = m := ⟨_, rfl⟩
  have m4 := most_spec r g b
  have n4 := least_spec r g b
  unfold hueV satV ligV turnV
  rw [hM, hm]
  rw [hM] at m4
  rw [hm] at n4
  by_cases hc : M - m = 0
  · rw [if_pos hc, if_pos hc]
    exact toHsl_gray R0 G0 B0 A0 r g b a M m _ w V e0 e1 e2 e3 hM hm rfl (by simpa using hc)
  · rw [if_neg hc, if_neg hc]
    have hcb : (M - m == 0) = false := by simpa using hc
    obtain ⟨p1, p2⟩ := tmod_emod (rdiv (65536 * (if M = r then g - b else if M = g then 2 * (M - m) + b - r else 4 * (M - m) + r - g)) (6 * (M - m)))
    by_cases hr : M = r
    · have hrb : (M == r) = true := by simpa using hr
      rw [if_pos hr] at p1 p2 ⊢
      by_cases hy : (rdiv (65536 * (g - b)) (6 * (M - m))).tmod 65536 < 0
      · rw [p1 hy]
        exact toHsl_rn R0 G0 B0 A0 r g b a M m _ _ _ _ w V e0 e1 e2 e3 hM hm rfl hcb hrb rfl rfl hy rfl
      · rw [p2 hy]
        exact toHsl_r R0 G0 B0 A0 r g b a M m _ _ _ _ w V e0 e1 e2 e3 hM hm rfl hcb hrb rfl rfl hy rfl
    · have hrb : (M == r) = false := by simpa using hr
      rw [if_neg hr] at p1 p2 ⊢
      have hpos : ∀ t : Int, 0 ≤ t → ¬ (rdiv (65536 * t) (6 * (M - m))).tmod 65536 < 0 := by
        intro t ht
        have h0 : 0 ≤ rdiv (65536 * t) (6 * (M - m)) := by
          have := rdiv_mono 0 (65536 * t) (6 * (M - m)) (by omega) (by omega)
          rw [rdiv_zero _ (by omega)] at this
          exact this
        obtain ⟨tp, _⟩ := floor_parts (rdiv (65536 * t) (6 * (M - m))) 65536
        rw [(tp h0).2]
        omega
      by_cases hg : M = g
      · have hgb : (M == g) = true := by simpa using hg
        rw [if_pos hg] at p1 p2 ⊢
        have hy := hpos (2 * (M - m) + b - r) (by omega)
        rw [p2 hy]
        exact toHsl_g R0 G0 B0 A0 r g b a M m _ _ _ _ w V e0 e1 e2 e3 hM hm rfl hcb hrb hgb rfl rfl hy rfl
      · have hgb : (M == g) = false := by simpa using hg
        rw [if_neg hg] at p1 p2 ⊢
        have hy := hpos (4 * (M - m) + r - g) (by omega)
        rw [p2 hy]
        exact toHsl_b R0 G0 B0 A0 r g b a M m _ _ _ _ w V e0 e1 e2 e3 hM hm rfl hcb hrb hgb rfl rfl hy rfl
theorem toHsl_any (r g b a : Int) (w : World) (V : Vld r g b a) :
    Calls Try.prog 40 #[.agg #[.int .i64 r, .int .i64 g, .int .i64 b, .int .i64 a]] w fun e w' => e = .returned (.agg #[.int .i64 (hueV r g b), .int .i64 (satV r g b), .int .i64 (ligV r g b)]) ∧ Below w.heap.size w w' :=
  toHsl_raw r g b a r g b a w V (lim_id V.r0 V.r1) (lim_id V.g0 V.g1) (lim_id V.b0 V.b1) (lim_id V.a0 V.a1)
theorem lim_vld (r g b a : Int) : Vld (lim r) (lim g) (lim b) (lim a) := ⟨(lim_range r).1, (lim_range r).2, (lim_range g).1, (lim_range g).2, (lim_range b).1, (lim_range b).2, (lim_range a).1, (lim_range a).2⟩
end Go.Proofs.Ytmgpmpiondciiaa.Adj
