/- imageeditorlaw17.awake answers true: the chapter's examples hold. No condition. -/
import Derived.Test.YtmgpmpiondciiaaAdjIs
namespace Go.Proofs.Ytmgpmpiondciiaa.Adj
open Go.RowKit Go.Proofs.Ytmgpmpiondciiaa.PAdjustImages Go.Proofs.YtmgpmpiondciiaaW.PrintWords Go.Proofs.YtmgpmpiondciiaaW.PrintMore Go.Proofs.Ytmgpmpiondciiaa.Plain
theorem aw0e : pixErr 1 [] [] 1 2 3 9 = 0 := by kernel_rfl
theorem aw0a : pixAns 1 [] [] 1 2 3 9 = ⟨65534, 65533, 65532, 9⟩ := by kernel_rfl
theorem aw1e : pixErr 2 [0, 32768, 16, 0, 65535] [] 16384 16384 16384 65535 = 0 := by kernel_rfl
theorem aw1a : pixAns 2 [0, 32768, 16, 0, 65535] [] 16384 16384 16384 65535 = ⟨32768, 32768, 32768, 65535⟩ := by kernel_rfl
theorem aw2e : pixErr 2 [0, 65535, 32, 0, 65535] [] 32768 32768 32768 65535 = 0 := by kernel_rfl
theorem aw2a : pixAns 2 [0, 65535, 32, 0, 65535] [] 32768 32768 32768 65535 = ⟨43690, 43690, 43690, 65535⟩ := by kernel_rfl
theorem aw3e : pixErr 4 [1000, 0] [] 100 100 100 65535 = 0 := by kernel_rfl
theorem aw3a : pixAns 4 [1000, 0] [] 100 100 100 65535 = ⟨1100, 1100, 1100, 65535⟩ := by kernel_rfl
theorem aw4e : pixErr 4 [0, 65535] [] 32868 32868 32868 65535 = 0 := by kernel_rfl
theorem aw4a : pixAns 4 [0, 65535] [] 32868 32868 32868 65535 = ⟨32968, 32968, 32968, 65535⟩ := by kernel_rfl
theorem aw5e : pixErr 7 [3] [] 20000 20000 20000 65535 = 0 := by kernel_rfl
theorem aw5a : pixAns 7 [3] [] 20000 20000 20000 65535 = ⟨32768, 32768, 32768, 65535⟩ := by kernel_rfl
theorem aw6e : pixErr 9 [1, 1, 1] [] 1 2 5 9 = 0 := by kernel_rfl
theorem aw6a : pixAns 9 [1, 1, 1] [] 1 2 5 9 = ⟨3, 3, 3, 9⟩ := by kernel_rfl
theorem aw7e : pixErr 11 [16, 0] [] 100 100 100 65535 = 0 := by kernel_rfl
theorem aw7a : pixAns 11 [16, 0] [] 100 100 100 65535 = ⟨200, 200, 200, 65535⟩ := by kernel_rfl
theorem aw8e : pixErr 11 [-16, 0] [] 101 101 101 65535 = 0 := by kernel_rfl
theorem aw8a : pixAns 11 [-16, 0] [] 101 101 101 65535 = ⟨51, 51, 51, 65535⟩ := by kernel_rfl
theorem aw9e : pixErr 11 [8, 0] [] 1000 1000 1000 65535 = 0 := by kernel_rfl
theorem aw9a : pixAns 11 [8, 0] [] 1000 1000 1000 65535 = ⟨1414, 1414, 1414, 65535⟩ := by kernel_rfl
theorem aw10e : pixErr 5 [32768, 0, 0] [] 65535 0 0 65535 = 0 := by kernel_rfl
theorem aw10a : pixAns 5 [32768, 0, 0] [] 65535 0 0 65535 = ⟨1, 65535, 65535, 65535⟩ := by kernel_rfl
theorem awC : checkV 2 [0, 0, 16, 0, 65535] [] = 24 := by kernel_rfl
theorem awR : (hueV 65535 0 0, satV 65535 0 0, ligV 65535 0 0) = (0, 65535, 32768) := by kernel_rfl
theorem awG : (hueV 0 65535 0, satV 0 65535 0, ligV 0 65535 0) = (21845, 65535, 32768) := by kernel_rfl
theorem awF : fromPix 0 65535 32768 65535 = .agg #[.int .i64 65535, .int .i64 1, .int .i64 1, .int .i64 65535] := by kernel_rfl
theorem hsl_red (w : World) : Calls Try.prog 40 #[.agg #[.int .i64 65535, .int .i64 0, .int .i64 0, .int .i64 65535]] w fun e w' => e = .returned (.agg #[.int .i64 0, .int .i64 65535, .int .i64 32768]) ∧ Below w.heap.size w w' := by
  have h := toHsl_any 65535 0 0 65535 w ⟨by decide, by decide, by decide, by decide, by decide, by decide, by decide, by decide⟩
  obtain ⟨h1, h2, h3⟩ := (by simpa only [Prod.mk.injEq] using awR : hueV 65535 0 0 = 0 ∧ satV 65535 0 0 = 65535 ∧ ligV 65535 0 0 = 32768)
  rw [h1, h2, h3] at h
  exact h
theorem hsl_green (w : World) : Calls Try.prog 40 #[.agg #[.int .i64 0, .int .i64 65535, .int .i64 0, .int .i64 65535]] w fun e w' => e = .returned (.agg #[.int .i64 21845, .int .i64 65535, .int .i64 32768]) ∧ Below w.heap.size w w' := by
  have h := toHsl_any 0 65535 0 65535 w ⟨by decide, by decide, by decide, by decide, by decide, by decide, by decide, by decide⟩
  obtain ⟨h1, h2, h3⟩ := (by simpa only [Prod.mk.injEq] using awG : hueV 0 65535 0 = 21845 ∧ satV 0 65535 0 = 65535 ∧ ligV 0 65535 0 = 32768)
  rw [h1, h2, h3] at h
  exact h
theorem hsl_from (w : World) : Calls Try.prog 42 #[.agg #[.int .i64 0, .int .i64 65535, .int .i64 32768], .int .i64 65535] w fun e w' => e = .returned (.agg #[.int .i64 65535, .int .i64 1, .int .i64 1, .int .i64 65535]) ∧ Below w.heap.size w w' := by
  have h := fromHsl_any 0 65535 32768 65535 w
  rw [awF] at h
  exact h
set_option maxRecDepth 100000 in
set_option maxHeartbeats 8000000 in
theorem awake_any (w : World) : Calls Try.prog 34 #[] w fun e w' => e = .returned (.bool true) ∧ Below w.heap.size w w' := by
  have HB := Aside0.mk (Below.refl w.heap.size w)
  have hE := eq_arr3
  go_enter Try.func34, Try.ntmps34
  go_wp2_with fail
  refine (is_true 1 none 0 [] 1 2 3 9 65534 65533 65532 9 _ (ints_none _) (by decide) aw0e aw0a).mono ?_
  rintro e w1 ⟨rfl, hb⟩
  replace HB := Aside0.mk (step HB.out hb)
  clear hb
  dsimp only
  go_wp2_with fail
  refine (lgray_any 16384 _).mono ?_
  rintro e w2 ⟨rfl, hb⟩
  replace HB := Aside0.mk (step (below_alloc HB.out _) hb)
  have BX := blk_below (blk_new w1 (.cells #[.int .i64 0, .int .i64 32768, .int .i64 16, .int .i64 0, .int .i64 65535] 3)) hb
  clear hb
  dsimp only
  go_wp2_with fail
  refine (lgray_any 32768 _).mono ?_
  rintro e w3 ⟨rfl, hb⟩
  replace HB := Aside0.mk (step HB.out hb)
  replace BX := blk_below BX hb
  clear hb
  dsimp only
  go_wp2_with fail
  refine (is_true 2 (some ⟨w1.heap.size, 0, none⟩) 5 [0, 32768, 16, 0, 65535] 16384 16384 16384 65535 32768 32768 32768 65535 _ (ints_blk BX (by decide)) (by decide) aw1e aw1a).mono ?_
  rintro e w4 ⟨rfl, hb⟩
  replace HB := Aside0.mk (step HB.out hb)
  clear hb
  dsimp only
  go_wp2_with fail
  refine (lgray_any 32768 _).mono ?_
  rintro e w5 ⟨rfl, hb⟩
  replace HB := Aside0.mk (step (below_alloc HB.out _) hb)
  have BX := blk_below (blk_new w4 (.cells #[.int .i64 0, .int .i64 65535, .int .i64 32, .int .i64 0, .int .i64 65535] 3)) hb
  clear hb
  dsimp only
  go_wp2_with fail
  refine (lgray_any 43690 _).mono ?_
  rintro e w6 ⟨rfl, hb⟩
  replace HB := Aside0.mk (step HB.out hb)
  replace BX := blk_below BX hb
  clear hb
  dsimp only
  go_wp2_with fail
  refine (is_true 2 (some ⟨w4.heap.size, 0, none⟩) 5 [0, 65535, 32, 0, 65535] 32768 32768 32768 65535 43690 43690 43690 65535 _ (ints_blk BX (by decide)) (by decide) aw2e aw2a).mono ?_
  rintro e w7 ⟨rfl, hb⟩
  replace HB := Aside0.mk (step HB.out hb)
  clear hb
  dsimp only
  go_wp2_with fail
  refine (lgray_any 100 _).mono ?_
  rintro e w8 ⟨rfl, hb⟩
  replace HB := Aside0.mk (step (below_alloc HB.out _) hb)
  have BX := blk_below (blk_new w7 (.cells #[.int .i64 1000, .int .i64 0] 3)) hb
  clear hb
  dsimp only
  go_wp2_with fail
  refine (lgray_any 1100 _).mono ?_
  rintro e w9 ⟨rfl, hb⟩
  replace HB := Aside0.mk (step HB.out hb)
  replace BX := blk_below BX hb
  clear hb
  dsimp only
  go_wp2_with fail
  refine (is_true 4 (some ⟨w7.heap.size, 0, none⟩) 2 [1000, 0] 100 100 100 65535 1100 1100 1100 65535 _ (ints_blk BX (by decide)) (by decide) aw3e aw3a).mono ?_
  rintro e w10 ⟨rfl, hb⟩
  replace HB := Aside0.mk (step HB.out hb)
  clear hb
  dsimp only
  go_wp2_with fail
  refine (lgray_any 32868 _).mono ?_
  rintro e w11 ⟨rfl, hb⟩
  replace HB := Aside0.mk (step (below_alloc HB.out _) hb)
  have BX := blk_below (blk_new w10 (.cells #[.int .i64 0, .int .i64 65535] 3)) hb
  clear hb
  dsimp only
  go_wp2_with fail
  refine (lgray_any 32968 _).mono ?_
  rintro e w12 ⟨rfl, hb⟩
  replace HB := Aside0.mk (step HB.out hb)
  replace BX := blk_below BX hb
  clear hb
  dsimp only
  go_wp2_with fail
  refine (is_true 4 (some ⟨w10.heap.size, 0, none⟩) 2 [0, 65535] 32868 32868 32868 65535 32968 32968 32968 65535 _ (ints_blk BX (by decide)) (by decide) aw4e aw4a).mono ?_
  rintro e w13 ⟨rfl, hb⟩
  replace HB := Aside0.mk (step HB.out hb)
  clear hb
  dsimp only
  go_wp2_with fail
  refine (lgray_any 20000 _).mono ?_
  rintro e w14 ⟨rfl, hb⟩
  replace HB := Aside0.mk (step (below_alloc HB.out _) hb)
  have BX := blk_below (blk_new w13 (.cells #[.int .i64 3] 3)) hb
  clear hb
  dsimp only
  go_wp2_with fail
  refine (lgray_any 32768 _).mono ?_
  rintro e w15 ⟨rfl, hb⟩
  replace HB := Aside0.mk (step HB.out hb)
  replace BX := blk_below BX hb
  clear hb
  dsimp only
  go_wp2_with fail
  refine (is_true 7 (some ⟨w13.heap.size, 0, none⟩) 1 [3] 20000 20000 20000 65535 32768 32768 32768 65535 _ (ints_blk BX (by decide)) (by decide) aw5e aw5a).mono ?_
  rintro e w16 ⟨rfl, hb⟩
  replace HB := Aside0.mk (step HB.out hb)
  clear hb
  dsimp only
  go_wp2_with fail
  refine (is_true 9 (some ⟨w16.heap.size, 0, none⟩) 3 [1, 1, 1] 1 2 5 9 3 3 3 9 _ (ints_blk (blk_new w16 (.cells #[.int .i64 1, .int .i64 1, .int .i64 1] 3)) (by decide)) (by decide) aw6e aw6a).mono ?_
  rintro e w17 ⟨rfl, hb⟩
  replace HB := Aside0.mk (step (below_alloc HB.out _) hb)
  clear hb
  dsimp only
  go_wp2_with fail
  refine (lgray_any 100 _).mono ?_
  rintro e w18 ⟨rfl, hb⟩
  replace HB := Aside0.mk (step (below_alloc HB.out _) hb)
  have BX := blk_below (blk_new w17 (.cells #[.int .i64 16, .int .i64 0] 3)) hb
  clear hb
  dsimp only
  go_wp2_with fail
  refine (lgray_any 200 _).mono ?_
  rintro e w19 ⟨rfl, hb⟩
  replace HB := Aside0.mk (step HB.out hb)
  replace BX := blk_below BX hb
  clear hb
  dsimp only
  go_wp2_with fail
  refine (is_true 11 (some ⟨w17.heap.size, 0, none⟩) 2 [16, 0] 100 100 100 65535 200 200 200 65535 _ (ints_blk BX (by decide)) (by decide) aw7e aw7a).mono ?_
  rintro e w20 ⟨rfl, hb⟩
  replace HB := Aside0.mk (step HB.out hb)
  clear hb
  dsimp only
  go_wp2_with fail
  refine (lgray_any 101 _).mono ?_
  rintro e w21 ⟨rfl, hb⟩
  replace HB := Aside0.mk (step (below_alloc HB.out _) hb)
  have BX := blk_below (blk_new w20 (.cells #[.int .i64 (-16), .int .i64 0] 3)) hb
  clear hb
  dsimp only
  go_wp2_with fail
  refine (lgray_any 51 _).mono ?_
  rintro e w22 ⟨rfl, hb⟩
  replace HB := Aside0.mk (step HB.out hb)
  replace BX := blk_below BX hb
  clear hb
  dsimp only
  go_wp2_with fail
  refine (is_true 11 (some ⟨w20.heap.size, 0, none⟩) 2 [-16, 0] 101 101 101 65535 51 51 51 65535 _ (ints_blk BX (by decide)) (by decide) aw8e aw8a).mono ?_
  rintro e w23 ⟨rfl, hb⟩
  replace HB := Aside0.mk (step HB.out hb)
  clear hb
  dsimp only
  go_wp2_with fail
  refine (lgray_any 1000 _).mono ?_
  rintro e w24 ⟨rfl, hb⟩
  replace HB := Aside0.mk (step (below_alloc HB.out _) hb)
  have BX := blk_below (blk_new w23 (.cells #[.int .i64 8, .int .i64 0] 3)) hb
  clear hb
  dsimp only
  go_wp2_with fail
  refine (lgray_any 1414 _).mono ?_
  rintro e w25 ⟨rfl, hb⟩
  replace HB := Aside0.mk (step HB.out hb)
  replace BX := blk_below BX hb
  clear hb
  dsimp only
  go_wp2_with fail
  refine (is_true 11 (some ⟨w23.heap.size, 0, none⟩) 2 [8, 0] 1000 1000 1000 65535 1414 1414 1414 65535 _ (ints_blk BX (by decide)) (by decide) aw9e aw9a).mono ?_
  rintro e w26 ⟨rfl, hb⟩
  replace HB := Aside0.mk (step HB.out hb)
  clear hb
  dsimp only
  go_wp2_with fail
  refine (hsl_red _).mono ?_
  rintro e w27 ⟨rfl, hb⟩
  replace HB := Aside0.mk (step (below_alloc HB.out _) hb)
  have RX := blk_below (blk_new w26 (.cells #[.int .i64 65535, .int .i64 0, .int .i64 0, .int .i64 65535] 45)) hb
  clear hb
  dsimp only
  go_wp2_with fail
  refine (hsl_green _).mono ?_
  rintro e w28 ⟨rfl, hb⟩
  replace HB := Aside0.mk (step HB.out hb)
  replace RX := blk_below RX hb
  clear hb
  dsimp only
  go_wp2_with fail
  refine (hsl_from _).mono ?_
  rintro e w29 ⟨rfl, hb⟩
  replace HB := Aside0.mk (step HB.out hb)
  replace RX := blk_below RX hb
  clear hb
  dsimp only
  have p0 := fun o => kept (below_alloc (Below.refl _ w29) o) ((blk_cell RX 0).trans rfl : w29.cell? ⟨w26.heap.size, 0, none⟩ = some (.int .i64 65535))
  have p1 := fun o => kept (below_alloc (Below.refl _ w29) o) ((blk_cell RX 1).trans rfl : w29.cell? ⟨w26.heap.size, 1, none⟩ = some (.int .i64 0))
  have p2 := fun o => kept (below_alloc (Below.refl _ w29) o) ((blk_cell RX 2).trans rfl : w29.cell? ⟨w26.heap.size, 2, none⟩ = some (.int .i64 0))
  have p3 := fun o => kept (below_alloc (Below.refl _ w29) o) ((blk_cell RX 3).trans rfl : w29.cell? ⟨w26.heap.size, 3, none⟩ = some (.int .i64 65535))
  clear RX
  go_wp2_with fail
  refine (is_true 5 (some ⟨w29.heap.size, 0, none⟩) 3 [32768, 0, 0] 65535 0 0 65535 1 65535 65535 65535 _ (ints_blk (blk_new w29 (.cells #[.int .i64 32768, .int .i64 0, .int .i64 0] 3)) (by decide)) (by decide) aw10e aw10a).mono ?_
  rintro e w30 ⟨rfl, hb⟩
  replace HB := Aside0.mk (step (below_alloc HB.out _) hb)
  clear hb
  dsimp only
  go_wp2_with fail
  have hC := fun w1 (h : Ints w1 (some ⟨w30.heap.size, 0, none⟩) [0, 0, 16, 0, 65535]) => check_any 2 (some ⟨w30.heap.size, 0, none⟩) 5 [0, 0, 16, 0, 65535] none 0 [] w1 h (by decide) (stops_none w1) (by decide)
  rw [awC] at hC
  refine (hC _ (ints_blk (blk_new w30 (.cells #[.int .i64 0, .int .i64 0, .int .i64 16, .int .i64 0, .int .i64 65535] 3)) (by decide))).mono ?_
  rintro e w31 ⟨rfl, hb⟩
  replace HB := Aside0.mk (step (below_alloc HB.out _) hb)
  clear hb
  dsimp only
  go_wp2
  go_ret
  exact ⟨rfl, HB.out⟩
end Go.Proofs.Ytmgpmpiondciiaa.Adj
