/- The reference's ToHsl as a contract. No condition but the bounds of each theorem. -/
import Derived.Test.YtmgpmpiondciiaaAdjHsl
import Derived.Test.YtmgpmpiondciiaaAdjRefNum
namespace Go.Proofs.Ytmgpmpiondciiaa.Adj
open Go.RowKit Go.Proofs.Ytmgpmpiondciiaa.PAdjustImages Go.Proofs.YtmgpmpiondciiaaW.PrintWords Go.Proofs.YtmgpmpiondciiaaW.PrintMore Go.Proofs.Ytmgpmpiondciiaa.Plain
attribute [local go_sem] max2_int min2_int max_two min_two max_three min_three
set_option maxRecDepth 100000 in
set_option maxHeartbeats 8000000 in
theorem rHsl_gray (R0 G0 B0 A0 r g b a M m L : Int) (w : World) (V : Vld r g b a) (e0 : lim R0 = r) (e1 : lim G0 = g) (e2 : lim B0 = b) (e3 : lim A0 = a) (hM : most r g b = M) (hm : least r g b = m) (hL : rdiv (M + m) 2 = L) (q0 : (M - m == 0) = true) :
    Calls Try.prog 41 #[.agg #[.int .i64 R0, .int .i64 G0, .int .i64 B0, .int .i64 A0]] w fun e w' => e = .returned (.agg #[.int .i64 0, .int .i64 0, .int .i64 L]) ∧ Below w.heap.size w w' := by
  obtain ⟨r0, r1, g0, g1, b0, b1, a0, a1⟩ := V
  obtain ⟨m1, m2, m3, m4⟩ := most_spec r g b
  obtain ⟨n1, n2, n3, n4⟩ := least_spec r g b
  rw [hM] at m1 m2 m3 m4
  rw [hm] at n1 n2 n3 n4
  obtain ⟨t1, ht1⟩ : ∃ z, (if r < g then g else r) = z := ⟨_, rfl⟩
  have hM2 : (if t1 < b then b else t1) = M := by rw [← hM, ← ht1]; rfl
  obtain ⟨t2, ht2⟩ : ∃ z, (if g < r then g else r) = z := ⟨_, rfl⟩
  have hm2 : (if b < t2 then b else t2) = m := by rw [← hm, ← ht2]; rfl
  clear hM hm
  have HL : Aside0 (∀ w, Calls Try.prog 63 #[.agg #[.int .i64 R0, .int .i64 G0, .int .i64 B0, .int .i64 A0]] w fun e w' => e = .returned (.agg #[.int .i64 r, .int .i64 g, .int .i64 b, .int .i64 a]) ∧ Below w.heap.size w w') := ⟨fun w => by
    have := LimitR R0 G0 B0 A0 w
    rw [e0, e1, e2, e3] at this
    exact this⟩
  clear e0 e1 e2 e3
  have H2 : Aside0 (∀ w, Qt 53 #[.int .i64 (M + m), .int .i64 2] w (.int .i64 L)) := ⟨fun w => by rw [← hL]; exact rdivR (M + m) 2 w (by omega) (by omega) (by omega) (by omega)⟩
  have w1_ := wi (M + m) (by omega) (by omega)
  have w2_ := wi (M - m) (by omega) (by omega)
  clear hL
  go_enter Try.func41, Try.ntmps41
  go_wp2_with fail
  have X1 : ((w.alloc (.cells #[.int .i64 R0, .int .i64 G0, .int .i64 B0, .int .i64 A0] 45)).alloc (.cells #[.int .i64 0, .int .i64 0, .int .i64 0] 51)).heap[w.heap.size + 1]? = some (.cells #[.int .i64 0, .int .i64 0, .int .i64 0] 51 (0, 0)) := by have := blk_new (w.alloc (.cells #[.int .i64 R0, .int .i64 G0, .int .i64 B0, .int .i64 A0] 45)) (.cells #[.int .i64 0, .int .i64 0, .int .i64 0] 51); simpa using this
  have XB := below_alloc (below_alloc (Below.refl w.heap.size w) (.cells #[.int .i64 R0, .int .i64 G0, .int .i64 B0, .int .i64 A0] 45)) (.cells #[.int .i64 0, .int .i64 0, .int .i64 0] 51)
  refine (HL.out _).mono ?_
  rintro e w1 ⟨rfl, hb⟩
  have Y1 := blk_below X1 hb
  have YB := step XB hb
  clear X1 XB hb
  dsimp only
  go_wp2_with fail
  have Z1 := blk_alloc Y1 (.cells #[.int .i64 r, .int .i64 g, .int .i64 b, .int .i64 a] 45)
  have Z3 := blk_new w1 (.cells #[.int .i64 r, .int .i64 g, .int .i64 b, .int .i64 a] 45)
  have ZB := below_alloc YB (.cells #[.int .i64 r, .int .i64 g, .int .i64 b, .int .i64 a] 45)
  have L1 := blk_lt Y1
  clear Y1 YB
  refine (H2.out _).mono ?_
  rintro e w2 ⟨rfl, mm, rfl⟩
  generalize w1.alloc (.cells #[.int .i64 r, .int .i64 g, .int .i64 b, .int .i64 a] 45) = W at Z1 Z3 ZB ⊢
  generalize w1.heap.size = g3 at Z3 L1 ⊢
  dsimp only
  have z0 : W.cell? ⟨w.heap.size + 1, 0, none⟩ = some (.int .i64 0) := (blk_cell Z1 0).trans rfl
  have f0 := blk_frozen Z1 0
  have z1 : W.cell? ⟨w.heap.size + 1, 1, none⟩ = some (.int .i64 0) := (blk_cell Z1 1).trans rfl
  have f1 := blk_frozen Z1 1
  have z2 : W.cell? ⟨w.heap.size + 1, 2, none⟩ = some (.int .i64 0) := (blk_cell Z1 2).trans rfl
  have f2 := blk_frozen Z1 2
  have HB := Aside0.mk ZB
  clear Z1 Z3 ZB
  go_wp2
  refine bodyPost_ret (v := .agg #[.int .i64 0, .int .i64 0, .int .i64 L]) (by simp [results, Try.results41, go_sem, z0, z1, z2]) rfl ⟨rfl, ?_⟩
  with_reducible repeat (first | exact HB.out | refine below_set ?_ (by omega) | refine pw_below_drewN ?_ _)
set_option maxRecDepth 100000 in
set_option maxHeartbeats 8000000 in
theorem rHsl_r (R0 G0 B0 A0 r g b a M m L z h S : Int) (w : World) (V : Vld r g b a) (e0 : lim R0 = r) (e1 : lim G0 = g) (e2 : lim B0 = b) (e3 : lim A0 = a) (hM : most r g b = M) (hm : least r g b = m) (hL : rdiv (M + m) 2 = L) (q0 : (M - m == 0) = false) (q1 : (r == M) = true) (hz : rdiv (65536 * (g - b)) (6 * (M - m)) = z) (hh : z % 65536 = h) (hS : rdiv ((M - m) * 65535) (wide (M + m - 65535)) = S) :
    Calls Try.prog 41 #[.agg #[.int .i64 R0, .int .i64 G0, .int .i64 B0, .int .i64 A0]] w fun e w' => e = .returned (.agg #[.int .i64 (h), .int .i64 S, .int .i64 L]) ∧ Below w.heap.size w w' := by
  obtain ⟨r0, r1, g0, g1, b0, b1, a0, a1⟩ := V
  obtain ⟨m1, m2, m3, m4⟩ := most_spec r g b
  obtain ⟨n1, n2, n3, n4⟩ := least_spec r g b
  rw [hM] at m1 m2 m3 m4
  rw [hm] at n1 n2 n3 n4
  obtain ⟨t1, ht1⟩ : ∃ z, (if r < g then g else r) = z := ⟨_, rfl⟩
  have hM2 : (if t1 < b then b else t1) = M := by rw [← hM, ← ht1]; rfl
  obtain ⟨t2, ht2⟩ : ∃ z, (if g < r then g else r) = z := ⟨_, rfl⟩
  have hm2 : (if b < t2 then b else t2) = m := by rw [← hm, ← ht2]; rfl
  clear hM hm
  have HL : Aside0 (∀ w, Calls Try.prog 63 #[.agg #[.int .i64 R0, .int .i64 G0, .int .i64 B0, .int .i64 A0]] w fun e w' => e = .returned (.agg #[.int .i64 r, .int .i64 g, .int .i64 b, .int .i64 a]) ∧ Below w.heap.size w w') := ⟨fun w => by
    have := LimitR R0 G0 B0 A0 w
    rw [e0, e1, e2, e3] at this
    exact this⟩
  clear e0 e1 e2 e3
  have H2 : Aside0 (∀ w, Qt 53 #[.int .i64 (M + m), .int .i64 2] w (.int .i64 L)) := ⟨fun w => by rw [← hL]; exact rdivR (M + m) 2 w (by omega) (by omega) (by omega) (by omega)⟩
  have w1_ := wi (M + m) (by omega) (by omega)
  have w2_ := wi (M - m) (by omega) (by omega)
  have hc : M - m ≠ 0 := by simpa using q0
  have w3_ := wi ((M - m) * 65535) (by omega) (by omega)
  have w4_ := wi (M + m - 65535) (by omega) (by omega)
  have hw : 0 < wide (M + m - 65535) ∧ wide (M + m - 65535) ≤ 65535 := by unfold wide mx; split <;> omega
  have w5_ := wi (65535 - mx (M + m - 65535) (-(M + m - 65535))) (by have := hw.1; unfold wide at this; omega) (by have := hw.2; unfold wide at this; omega)
  have HS : Aside0 (∀ w, Qt 53 #[.int .i64 ((M - m) * 65535), .int .i64 (65535 - mx (M + m - 65535) (-(M + m - 65535)))] w (.int .i64 S)) := ⟨fun w => by rw [← hS]; exact rdivR _ _ w hw.1 (by have := hw.2; unfold wide at this; omega) (by omega) (by omega)⟩
  have HA : Aside0 (∀ w, Calls Try.prog 64 #[.int .i64 (M + m - 65535)] w fun e w' => e = .returned (.int .i64 (mx (M + m - 65535) (-(M + m - 65535)))) ∧ Below w.heap.size w w') := ⟨fun w => absR _ w (by omega) (by omega)⟩
  have w6_ := wi (r - g) (by omega) (by omega)
  have w7_ := wi (g - b) (by omega) (by omega)
  have w8_ := wi (b - r) (by omega) (by omega)
  have w9_ := wi (6 * (M - m)) (by omega) (by omega)
  have wa_ := wi (65536 * (g - b)) (by omega) (by omega)
  have wb_ := wi (0 * (M - m)) (by omega) (by omega)
  have wc_ := wi (g - b) (by omega) (by omega)
  have hzz := rdiv_between (65536 * (g - b)) (6 * (M - m)) (-10923) 54614 (by omega) (by omega) (by omega)
  rw [hz] at hzz
  have wd_ := wi (z + 65536) (by omega) (by omega)
  have we_ : (z + 65536).tmod 65536 = h := by rw [Int.tmod_eq_emod_of_nonneg (by omega), ← hh]; omega
  have HZ : Aside0 (∀ w, Qt 53 #[.int .i64 (65536 * (g - b)), .int .i64 (6 * (M - m))] w (.int .i64 z)) := ⟨fun w => by rw [← hz]; exact rdivR _ _ w (by omega) (by omega) (by omega) (by omega)⟩
  clear hz hS hh hw hc hzz
  clear hL
  go_enter Try.func41, Try.ntmps41
  go_wp2_with fail
  have X1 : ((w.alloc (.cells #[.int .i64 R0, .int .i64 G0, .int .i64 B0, .int .i64 A0] 45)).alloc (.cells #[.int .i64 0, .int .i64 0, .int .i64 0] 51)).heap[w.heap.size + 1]? = some (.cells #[.int .i64 0, .int .i64 0, .int .i64 0] 51 (0, 0)) := by have := blk_new (w.alloc (.cells #[.int .i64 R0, .int .i64 G0, .int .i64 B0, .int .i64 A0] 45)) (.cells #[.int .i64 0, .int .i64 0, .int .i64 0] 51); simpa using this
  have XB := below_alloc (below_alloc (Below.refl w.heap.size w) (.cells #[.int .i64 R0, .int .i64 G0, .int .i64 B0, .int .i64 A0] 45)) (.cells #[.int .i64 0, .int .i64 0, .int .i64 0] 51)
  refine (HL.out _).mono ?_
  rintro e w1 ⟨rfl, hb⟩
  have Y1 := blk_below X1 hb
  have YB := step XB hb
  clear X1 XB hb
  dsimp only
  go_wp2_with fail
  have Z1 := blk_alloc Y1 (.cells #[.int .i64 r, .int .i64 g, .int .i64 b, .int .i64 a] 45)
  have Z3 := blk_new w1 (.cells #[.int .i64 r, .int .i64 g, .int .i64 b, .int .i64 a] 45)
  have ZB := below_alloc YB (.cells #[.int .i64 r, .int .i64 g, .int .i64 b, .int .i64 a] 45)
  have L1 := blk_lt Y1
  clear Y1 YB
  refine (H2.out _).mono ?_
  rintro e w2 ⟨rfl, mm, rfl⟩
  generalize w1.alloc (.cells #[.int .i64 r, .int .i64 g, .int .i64 b, .int .i64 a] 45) = W at Z1 Z3 ZB ⊢
  generalize w1.heap.size = g3 at Z3 L1 ⊢
  dsimp only
  have p0 : W.cell? ⟨g3, 0, none⟩ = some (.int .i64 r) := (blk_cell Z3 0).trans rfl
  have p1 : W.cell? ⟨g3, 1, none⟩ = some (.int .i64 g) := (blk_cell Z3 1).trans rfl
  have p2 : W.cell? ⟨g3, 2, none⟩ = some (.int .i64 b) := (blk_cell Z3 2).trans rfl
  have p3 : W.cell? ⟨g3, 3, none⟩ = some (.int .i64 a) := (blk_cell Z3 3).trans rfl
  go_wp2_with fail
  refine (HA.out _).mono ?_
  rintro e w3 ⟨rfl, hb⟩
  have V1 := blk_below (blk_drewN Z1 mm) hb
  have V3 := blk_below (blk_drewN Z3 mm) hb
  have VB := Aside0.mk (step (pw_below_drewN ZB mm) hb)
  clear Z1 Z3 ZB hb p0 p1 p2 p3
  have p0 : w3.cell? ⟨g3, 0, none⟩ = some (.int .i64 r) := (blk_cell V3 0).trans rfl
  have p1 : w3.cell? ⟨g3, 1, none⟩ = some (.int .i64 g) := (blk_cell V3 1).trans rfl
  have p2 : w3.cell? ⟨g3, 2, none⟩ = some (.int .i64 b) := (blk_cell V3 2).trans rfl
  have p3 : w3.cell? ⟨g3, 3, none⟩ = some (.int .i64 a) := (blk_cell V3 3).trans rfl
  have z0 : w3.cell? ⟨w.heap.size + 1, 0, none⟩ = some (.int .i64 0) := (blk_cell V1 0).trans rfl
  have f0 := blk_frozen V1 0
  have z1 : w3.cell? ⟨w.heap.size + 1, 1, none⟩ = some (.int .i64 0) := (blk_cell V1 1).trans rfl
  have f1 := blk_frozen V1 1
  have z2 : w3.cell? ⟨w.heap.size + 1, 2, none⟩ = some (.int .i64 0) := (blk_cell V1 2).trans rfl
  have f2 := blk_frozen V1 2
  clear V1 V3
  dsimp only
  go_wp2_with fail
  refine (HS.out _).mono ?_
  rintro e w4 ⟨rfl, m4_, rfl⟩
  dsimp only
  go_wp2_with fail
  refine (HZ.out _).mono ?_
  rintro e w5 ⟨rfl, m5_, rfl⟩
  dsimp only
  go_wp2
  refine bodyPost_ret (v := .agg #[.int .i64 (h), .int .i64 S, .int .i64 L]) (by simp [results, Try.results41, go_sem, z0, z1, z2]) rfl ⟨rfl, ?_⟩
  with_reducible repeat (first | exact VB.out | refine below_set ?_ (by omega) | refine pw_below_drewN ?_ _)
set_option maxRecDepth 100000 in
set_option maxHeartbeats 8000000 in
theorem rHsl_g (R0 G0 B0 A0 r g b a M m L z h S : Int) (w : World) (V : Vld r g b a) (e0 : lim R0 = r) (e1 : lim G0 = g) (e2 : lim B0 = b) (e3 : lim A0 = a) (hM : most r g b = M) (hm : least r g b = m) (hL : rdiv (M + m) 2 = L) (q0 : (M - m == 0) = false) (q1 : (r == M) = false) (q2 : (g == M) = true) (hz : rdiv (65536 * (2 * (M - m) + (b - r))) (6 * (M - m)) = z) (hh : z % 65536 = h) (hS : rdiv ((M - m) * 65535) (wide (M + m - 65535)) = S) :
    Calls Try.prog 41 #[.agg #[.int .i64 R0, .int .i64 G0, .int .i64 B0, .int .i64 A0]] w fun e w' => e = .returned (.agg #[.int .i64 (h), .int .i64 S, .int .i64 L]) ∧ Below w.heap.size w w' := by
  obtain ⟨r0, r1, g0, g1, b0, b1, a0, a1⟩ := V
  obtain ⟨m1, m2, m3, m4⟩ := most_spec r g b
  obtain ⟨n1, n2, n3, n4⟩ := least_spec r g b
  rw [hM] at m1 m2 m3 m4
  rw [hm] at n1 n2 n3 n4
  obtain ⟨t1, ht1⟩ : ∃ z, (if r < g then g else r) = z := ⟨_, rfl⟩
  have hM2 : (if t1 < b then b else t1) = M := by rw [← hM, ← ht1]; rfl
  obtain ⟨t2, ht2⟩ : ∃ z, (if g < r then g else r) = z := ⟨_, rfl⟩
  have hm2 : (if b < t2 then b else t2) = m := by rw [← hm, ← ht2]; rfl
  clear hM hm
  have HL : Aside0 (∀ w, Calls Try.prog 63 #[.agg #[.int .i64 R0, .int .i64 G0, .int .i64 B0, .int .i64 A0]] w fun e w' => e = .returned (.agg #[.int .i64 r, .int .i64 g, .int .i64 b, .int .i64 a]) ∧ Below w.heap.size w w') := ⟨fun w => by
    have := LimitR R0 G0 B0 A0 w
    rw [e0, e1, e2, e3] at this
    exact this⟩
  clear e0 e1 e2 e3
  have H2 : Aside0 (∀ w, Qt 53 #[.int .i64 (M + m), .int .i64 2] w (.int .i64 L)) := ⟨fun w => by rw [← hL]; exact rdivR (M + m) 2 w (by omega) (by omega) (by omega) (by omega)⟩
  have w1_ := wi (M + m) (by omega) (by omega)
  have w2_ := wi (M - m) (by omega) (by omega)
  have hc : M - m ≠ 0 := by simpa using q0
  have w3_ := wi ((M - m) * 65535) (by omega) (by omega)
  have w4_ := wi (M + m - 65535) (by omega) (by omega)
  have hw : 0 < wide (M + m - 65535) ∧ wide (M + m - 65535) ≤ 65535 := by unfold wide mx; split <;> omega
  have w5_ := wi (65535 - mx (M + m - 65535) (-(M + m - 65535))) (by have := hw.1; unfold wide at this; omega) (by have := hw.2; unfold wide at this; omega)
  have HS : Aside0 (∀ w, Qt 53 #[.int .i64 ((M - m) * 65535), .int .i64 (65535 - mx (M + m - 65535) (-(M + m - 65535)))] w (.int .i64 S)) := ⟨fun w => by rw [← hS]; exact rdivR _ _ w hw.1 (by have := hw.2; unfold wide at this; omega) (by omega) (by omega)⟩
  have HA : Aside0 (∀ w, Calls Try.prog 64 #[.int .i64 (M + m - 65535)] w fun e w' => e = .returned (.int .i64 (mx (M + m - 65535) (-(M + m - 65535)))) ∧ Below w.heap.size w w') := ⟨fun w => absR _ w (by omega) (by omega)⟩
  have w6_ := wi (r - g) (by omega) (by omega)
  have w7_ := wi (g - b) (by omega) (by omega)
  have w8_ := wi (b - r) (by omega) (by omega)
  have w9_ := wi (6 * (M - m)) (by omega) (by omega)
  have wa_ := wi (65536 * (2 * (M - m) + (b - r))) (by omega) (by omega)
  have wb_ := wi (2 * (M - m)) (by omega) (by omega)
  have wc_ := wi (2 * (M - m) + (b - r)) (by omega) (by omega)
  have hzz := rdiv_between (65536 * (2 * (M - m) + (b - r))) (6 * (M - m)) (-10923) 54614 (by omega) (by omega) (by omega)
  rw [hz] at hzz
  have wd_ := wi (z + 65536) (by omega) (by omega)
  have we_ : (z + 65536).tmod 65536 = h := by rw [Int.tmod_eq_emod_of_nonneg (by omega), ← hh]; omega
  have HZ : Aside0 (∀ w, Qt 53 #[.int .i64 (65536 * (2 * (M - m) + (b - r))), .int .i64 (6 * (M - m))] w (.int .i64 z)) := ⟨fun w => by rw [← hz]; exact rdivR _ _ w (by omega) (by omega) (by omega) (by omega)⟩
  clear hz hS hh hw hc hzz
  clear hL
  go_enter Try.func41, Try.ntmps41
  go_wp2_with fail
  have X1 : ((w.alloc (.cells #[.int .i64 R0, .int .i64 G0, .int .i64 B0, .int .i64 A0] 45)).alloc (.cells #[.int .i64 0, .int .i64 0, .int .i64 0] 51)).heap[w.heap.size + 1]? = some (.cells #[.int .i64 0, .int .i64 0, .int .i64 0] 51 (0, 0)) := by have := blk_new (w.alloc (.cells #[.int .i64 R0, .int .i64 G0, .int .i64 B0, .int .i64 A0] 45)) (.cells #[.int .i64 0, .int .i64 0, .int .i64 0] 51); simpa using this
  have XB := below_alloc (below_alloc (Below.refl w.heap.size w) (.cells #[.int .i64 R0, .int .i64 G0, .int .i64 B0, .int .i64 A0] 45)) (.cells #[.int .i64 0, .int .i64 0, .int .i64 0] 51)
  refine (HL.out _).mono ?_
  rintro e w1 ⟨rfl, hb⟩
  have Y1 := blk_below X1 hb
  have YB := step XB hb
  clear X1 XB hb
  dsimp only
  go_wp2_with fail
  have Z1 := blk_alloc Y1 (.cells #[.int .i64 r, .int .i64 g, .int .i64 b, .int .i64 a] 45)
  have Z3 := blk_new w1 (.cells #[.int .i64 r, .int .i64 g, .int .i64 b, .int .i64 a] 45)
  have ZB := below_alloc YB (.cells #[.int .i64 r, .int .i64 g, .int .i64 b, .int .i64 a] 45)
  have L1 := blk_lt Y1
  clear Y1 YB
  refine (H2.out _).mono ?_
  rintro e w2 ⟨rfl, mm, rfl⟩
  generalize w1.alloc (.cells #[.int .i64 r, .int .i64 g, .int .i64 b, .int .i64 a] 45) = W at Z1 Z3 ZB ⊢
  generalize w1.heap.size = g3 at Z3 L1 ⊢
  dsimp only
  have p0 : W.cell? ⟨g3, 0, none⟩ = some (.int .i64 r) := (blk_cell Z3 0).trans rfl
  have p1 : W.cell? ⟨g3, 1, none⟩ = some (.int .i64 g) := (blk_cell Z3 1).trans rfl
  have p2 : W.cell? ⟨g3, 2, none⟩ = some (.int .i64 b) := (blk_cell Z3 2).trans rfl
  have p3 : W.cell? ⟨g3, 3, none⟩ = some (.int .i64 a) := (blk_cell Z3 3).trans rfl
  go_wp2_with fail
  refine (HA.out _).mono ?_
  rintro e w3 ⟨rfl, hb⟩
  have V1 := blk_below (blk_drewN Z1 mm) hb
  have V3 := blk_below (blk_drewN Z3 mm) hb
  have VB := Aside0.mk (step (pw_below_drewN ZB mm) hb)
  clear Z1 Z3 ZB hb p0 p1 p2 p3
  have p0 : w3.cell? ⟨g3, 0, none⟩ = some (.int .i64 r) := (blk_cell V3 0).trans rfl
  have p1 : w3.cell? ⟨g3, 1, none⟩ = some (.int .i64 g) := (blk_cell V3 1).trans rfl
  have p2 : w3.cell? ⟨g3, 2, none⟩ = some (.int .i64 b) := (blk_cell V3 2).trans rfl
  have p3 : w3.cell? ⟨g3, 3, none⟩ = some (.int .i64 a) := (blk_cell V3 3).trans rfl
  have z0 : w3.cell? ⟨w.heap.size + 1, 0, none⟩ = some (.int .i64 0) := (blk_cell V1 0).trans rfl
  have f0 := blk_frozen V1 0
  have z1 : w3.cell? ⟨w.heap.size + 1, 1, none⟩ = some (.int .i64 0) := (blk_cell V1 1).trans rfl
  have f1 := blk_frozen V1 1
  have z2 : w3.cell? ⟨w.heap.size + 1, 2, none⟩ = some (.int .i64 0) := (blk_cell V1 2).trans rfl
  have f2 := blk_frozen V1 2
  clear V1 V3
  dsimp only
  go_wp2_with fail
  refine (HS.out _).mono ?_
  rintro e w4 ⟨rfl, m4_, rfl⟩
  dsimp only
  go_wp2_with fail
  refine (HZ.out _).mono ?_
  rintro e w5 ⟨rfl, m5_, rfl⟩
  dsimp only
  go_wp2
  refine bodyPost_ret (v := .agg #[.int .i64 (h), .int .i64 S, .int .i64 L]) (by simp [results, Try.results41, go_sem, z0, z1, z2]) rfl ⟨rfl, ?_⟩
  with_reducible repeat (first | exact VB.out | refine below_set ?_ (by omega) | refine pw_below_drewN ?_ _)
set_option maxRecDepth 100000 in
set_option maxHeartbeats 8000000 in
theorem rHsl_b (R0 G0 B0 A0 r g b a M m L z h S : Int) (w : World) (V : Vld r g b a) (e0 : lim R0 = r) (e1 : lim G0 = g) (e2 : lim B0 = b) (e3 : lim A0 = a) (hM : most r g b = M) (hm : least r g b = m) (hL : rdiv (M + m) 2 = L) (q0 : (M - m == 0) = false) (q1 : (r == M) = false) (q2 : (g == M) = false) (hz : rdiv (65536 * (4 * (M - m) + (r - g))) (6 * (M - m)) = z) (hh : z % 65536 = h) (hS : rdiv ((M - m) * 65535) (wide (M + m - 65535)) = S) :
    Calls Try.prog 41 #[.agg #[.int .i64 R0, .int .i64 G0, .int .i64 B0, .int .i64 A0]] w fun e w' => e = .returned (.agg #[.int .i64 (h), .int .i64 S, .int .i64 L]) ∧ Below w.heap.size w w' := by
  obtain ⟨r0, r1, g0, g1, b0, b1, a0, a1⟩ := V
  obtain ⟨m1, m2, m3, m4⟩ := most_spec r g b
  obtain ⟨n1, n2, n3, n4⟩ := least_spec r g b
  rw [hM] at m1 m2 m3 m4
  rw [hm] at n1 n2 n3 n4
  obtain ⟨t1, ht1⟩ : ∃ z, (if r < g then g else r) = z := ⟨_, rfl⟩
  have hM2 : (if t1 < b then b else t1) = M := by rw [← hM, ← ht1]; rfl
  obtain ⟨t2, ht2⟩ : ∃ z, (if g < r then g else r) = z := ⟨_, rfl⟩
  have hm2 : (if b < t2 then b else t2) = m := by rw [← hm, ← ht2]; rfl
  clear hM hm
  have HL : Aside0 (∀ w, Calls Try.prog 63 #[.agg #[.int .i64 R0, .int .i64 G0, .int .i64 B0, .int .i64 A0]] w fun e w' => e = .returned (.agg #[.int .i64 r, .int .i64 g, .int .i64 b, .int .i64 a]) ∧ Below w.heap.size w w') := ⟨fun w => by
    have := LimitR R0 G0 B0 A0 w
    rw [e0, e1, e2, e3] at this
    exact this⟩
  clear e0 e1 e2 e3
  have H2 : Aside0 (∀ w, Qt 53 #[.int .i64 (M + m), .int .i64 2] w (.int .i64 L)) := ⟨fun w => by rw [← hL]; exact rdivR (M + m) 2 w (by omega) (by omega) (by omega) (by omega)⟩
  have w1_ := wi (M + m) (by omega) (by omega)
  have w2_ := wi (M - m) (by omega) (by omega)
  have hc : M - m ≠ 0 := by simpa using q0
  have w3_ := wi ((M - m) * 65535) (by omega) (by omega)
  have w4_ := wi (M + m - 65535) (by omega) (by omega)
  have hw : 0 < wide (M + m - 65535) ∧ wide (M + m - 65535) ≤ 65535 := by unfold wide mx; split <;> omega
  have w5_ := wi (65535 - mx (M + m - 65535) (-(M + m - 65535))) (by have := hw.1; unfold wide at this; omega) (by have := hw.2; unfold wide at this; omega)
  have HS : Aside0 (∀ w, Qt 53 #[.int .i64 ((M - m) * 65535), .int .i64 (65535 - mx (M + m - 65535) (-(M + m - 65535)))] w (.int .i64 S)) := ⟨fun w => by rw [← hS]; exact rdivR _ _ w hw.1 (by have := hw.2; unfold wide at this; omega) (by omega) (by omega)⟩
  have HA : Aside0 (∀ w, Calls Try.prog 64 #[.int .i64 (M + m - 65535)] w fun e w' => e = .returned (.int .i64 (mx (M + m - 65535) (-(M + m - 65535)))) ∧ Below w.heap.size w w') := ⟨fun w => absR _ w (by omega) (by omega)⟩
  have w6_ := wi (r - g) (by omega) (by omega)
  have w7_ := wi (g - b) (by omega) (by omega)
  have w8_ := wi (b - r) (by omega) (by omega)
  have w9_ := wi (6 * (M - m)) (by omega) (by omega)
  have wa_ := wi (65536 * (4 * (M - m) + (r - g))) (by omega) (by omega)
  have wb_ := wi (4 * (M - m)) (by omega) (by omega)
  have wc_ := wi (4 * (M - m) + (r - g)) (by omega) (by omega)
  have hzz := rdiv_between (65536 * (4 * (M - m) + (r - g))) (6 * (M - m)) (-10923) 54614 (by omega) (by omega) (by omega)
  rw [hz] at hzz
  have wd_ := wi (z + 65536) (by omega) (by omega)
  have we_ : (z + 65536).tmod 65536 = h := by rw [Int.tmod_eq_emod_of_nonneg (by omega), ← hh]; omega
  have HZ : Aside0 (∀ w, Qt 53 #[.int .i64 (65536 * (4 * (M - m) + (r - g))), .int .i64 (6 * (M - m))] w (.int .i64 z)) := ⟨fun w => by rw [← hz]; exact rdivR _ _ w (by omega) (by omega) (by omega) (by omega)⟩
  clear hz hS hh hw hc hzz
  clear hL
  go_enter Try.func41, Try.ntmps41
  go_wp2_with fail
  have X1 : ((w.alloc (.cells #[.int .i64 R0, .int .i64 G0, .int .i64 B0, .int .i64 A0] 45)).alloc (.cells #[.int .i64 0, .int .i64 0, .int .i64 0] 51)).heap[w.heap.size + 1]? = some (.cells #[.int .i64 0, .int .i64 0, .int .i64 0] 51 (0, 0)) := by have := blk_new (w.alloc (.cells #[.int .i64 R0, .int .i64 G0, .int .i64 B0, .int .i64 A0] 45)) (.cells #[.int .i64 0, .int .i64 0, .int .i64 0] 51); simpa using this
  have XB := below_alloc (below_alloc (Below.refl w.heap.size w) (.cells #[.int .i64 R0, .int .i64 G0, .int .i64 B0, .int .i64 A0] 45)) (.cells #[.int .i64 0, .int .i64 0, .int .i64 0] 51)
  refine (HL.out _).mono ?_
  rintro e w1 ⟨rfl, hb⟩
  have Y1 := blk_below X1 hb
  have YB := step XB hb
  clear X1 XB hb
  dsimp only
  go_wp2_with fail
  have Z1 := blk_alloc Y1 (.cells #[.int .i64 r, .int .i64 g, .int .i64 b, .int .i64 a] 45)
  have Z3 := blk_new w1 (.cells #[.int .i64 r, .int .i64 g, .int .i64 b, .int .i64 a] 45)
  have ZB := below_alloc YB (.cells #[.int .i64 r, .int .i64 g, .int .i64 b, .int .i64 a] 45)
  have L1 := blk_lt Y1
  clear Y1 YB
  refine (H2.out _).mono ?_
  rintro e w2 ⟨rfl, mm, rfl⟩
  generalize w1.alloc (.cells #[.int .i64 r, .int .i64 g, .int .i64 b, .int .i64 a] 45) = W at Z1 Z3 ZB ⊢
  generalize w1.heap.size = g3 at Z3 L1 ⊢
  dsimp only
  have p0 : W.cell? ⟨g3, 0, none⟩ = some (.int .i64 r) := (blk_cell Z3 0).trans rfl
  have p1 : W.cell? ⟨g3, 1, none⟩ = some (.int .i64 g) := (blk_cell Z3 1).trans rfl
  have p2 : W.cell? ⟨g3, 2, none⟩ = some (.int .i64 b) := (blk_cell Z3 2).trans rfl
  have p3 : W.cell? ⟨g3, 3, none⟩ = some (.int .i64 a) := (blk_cell Z3 3).trans rfl
  go_wp2_with fail
  refine (HA.out _).mono ?_
  rintro e w3 ⟨rfl, hb⟩
  have V1 := blk_below (blk_drewN Z1 mm) hb
  have V3 := blk_below (blk_drewN Z3 mm) hb
  have VB := Aside0.mk (step (pw_below_drewN ZB mm) hb)
  clear Z1 Z3 ZB hb p0 p1 p2 p3
  have p0 : w3.cell? ⟨g3, 0, none⟩ = some (.int .i64 r) := (blk_cell V3 0).trans rfl
  have p1 : w3.cell? ⟨g3, 1, none⟩ = some (.int .i64 g) := (blk_cell V3 1).trans rfl
  have p2 : w3.cell? ⟨g3, 2, none⟩ = some (.int .i64 b) := (blk_cell V3 2).trans rfl
  have p3 : w3.cell? ⟨g3, 3, none⟩ = some (.int .i64 a) := (blk_cell V3 3).trans rfl
  have z0 : w3.cell? ⟨w.heap.size + 1, 0, none⟩ = some (.int .i64 0) := (blk_cell V1 0).trans rfl
  have f0 := blk_frozen V1 0
  have z1 : w3.cell? ⟨w.heap.size + 1, 1, none⟩ = some (.int .i64 0) := (blk_cell V1 1).trans rfl
  have f1 := blk_frozen V1 1
  have z2 : w3.cell? ⟨w.heap.size + 1, 2, none⟩ = some (.int .i64 0) := (blk_cell V1 2).trans rfl
  have f2 := blk_frozen V1 2
  clear V1 V3
  dsimp only
  go_wp2_with fail
  refine (HS.out _).mono ?_
  rintro e w4 ⟨rfl, m4_, rfl⟩
  dsimp only
  go_wp2_with fail
  refine (HZ.out _).mono ?_
  rintro e w5 ⟨rfl, m5_, rfl⟩
  dsimp only
  go_wp2
  refine bodyPost_ret (v := .agg #[.int .i64 (h), .int .i64 S, .int .i64 L]) (by simp [results, Try.results41, go_sem, z0, z1, z2]) rfl ⟨rfl, ?_⟩
  with_reducible repeat (first | exact VB.out | refine below_set ?_ (by omega) | refine pw_below_drewN ?_ _)
theorem rHsl_any (R0 G0 B0 A0 r g b a : Int) (w : World) (V : Vld r g b a) (e0 : lim R0 = r) (e1 : lim G0 = g) (e2 : lim B0 = b) (e3 : lim A0 = a) :
    Calls Try.prog 41 #[.agg #[.int .i64 R0, .int .i64 G0, .int .i64 B0, .int .i64 A0]] w fun e w' => e = .returned (.agg #[.int .i64 (hueV r g b), .int .i64 (satV r g b), .int .i64 (ligV r g b)]) ∧ Below w.heap.size w w' := by
  unfold hueV satV ligV turnV
  by_cases hc : most r g b - least r g b = 0
  · rw [if_pos hc, if_pos hc]
    exact rHsl_gray R0 G0 B0 A0 r g b a _ _ _ w V e0 e1 e2 e3 rfl rfl rfl (by simpa using hc)
  · rw [if_neg hc, if_neg hc]
    have hcb : (most r g b - least r g b == 0) = false := by simpa using hc
    by_cases hr : most r g b = r
    · rw [if_pos hr]
      exact rHsl_r R0 G0 B0 A0 r g b a _ _ _ _ _ _ w V e0 e1 e2 e3 rfl rfl rfl hcb (by simpa using hr.symm) rfl rfl rfl
    · rw [if_neg hr]
      have hrb : (r == most r g b) = false := by simpa using fun e : r = most r g b => hr e.symm
      by_cases hg : most r g b = g
      · rw [if_pos hg, show 2 * (most r g b - least r g b) + b - r = 2 * (most r g b - least r g b) + (b - r) by omega]
        exact rHsl_g R0 G0 B0 A0 r g b a _ _ _ _ _ _ w V e0 e1 e2 e3 rfl rfl rfl hcb hrb (by simpa using hg.symm) rfl rfl rfl
      · rw [if_neg hg, show 4 * (most r g b - least r g b) + r - g = 4 * (most r g b - least r g b) + (r - g) by omega]
        exact rHsl_b R0 G0 B0 A0 r g b a _ _ _ _ _ _ w V e0 e1 e2 e3 rfl rfl rfl hcb hrb (by simpa using fun e : g = most r g b => hg e.symm) rfl rfl rfl
end Go.Proofs.Ytmgpmpiondciiaa.Adj
