/- The plain law of AdjustNothing: five kinds' default parameters change nothing; and adjust.Default as contracts. No condition but those of each theorem. -/
import Derived.Test.YtmgpmpiondciiaaAdjKeep
namespace Go.Proofs.Ytmgpmpiondciiaa.Adj
open Go.RowKit Go.Proofs.Ytmgpmpiondciiaa.PAdjustImages Go.Proofs.YtmgpmpiondciiaaW.PrintWords Go.Proofs.YtmgpmpiondciiaaW.PrintMore Go.Proofs.Ytmgpmpiondciiaa.Plain
theorem none_2 (c : Int) (c0 : 0 ≤ c) (c1 : c ≤ 65535) : levelsV 0 65535 16 0 65535 c = c := by
  have e1 : levT 0 65535 c = c := by
    unfold levT
    rw [Int.sub_zero, Int.sub_zero, rdiv_mul _ _ (by decide), lim_id c0 c1]
  have e2 : levU c 16 = c := by
    unfold levU
    rw [show c * 16 + 16 * (65535 - c) = 1048560 by omega, show 65535 * c * 16 = c * 1048560 by omega, rdiv_mul _ _ (by decide)]
  unfold levelsV lerpV
  rw [e1, e2, Int.zero_mul, Int.zero_add, Int.mul_comm, rdiv_mul _ _ (by decide)]
theorem none_3 (c : Int) (c0 : 0 ≤ c) (c1 : c ≤ 65535) : curvV [0, 0, 65535, 65535] c = c := by
  have hk : knots [0, 0, 65535, 65535] 2 = [⟨0, 0⟩, ⟨65535, 65535⟩] := rfl
  show atv (At.X (knots [0, 0, 65535, 65535] 2)) (At.Y (knots [0, 0, 65535, 65535] 2)) 2 c = c
  rw [hk]
  have x0 : At.X [⟨0, 0⟩, ⟨65535, 65535⟩] 0 = 0 := rfl
  have x1 : At.X [⟨0, 0⟩, ⟨65535, 65535⟩] 1 = 65535 := rfl
  have y0 : At.Y [⟨0, 0⟩, ⟨65535, 65535⟩] 0 = 0 := rfl
  have y1 : At.Y [⟨0, 0⟩, ⟨65535, 65535⟩] 1 = 65535 := rfl
  have hg : GoodCurve (At.X [⟨0, 0⟩, ⟨65535, 65535⟩]) (At.Y [⟨0, 0⟩, ⟨65535, 65535⟩]) 2 := by
    refine ⟨by decide, by decide, fun i hi => ?_, fun i hi => ?_, fun i hi => ?_, fun i hi => ?_, fun i hi => ?_⟩
    · rcases (by omega : i = 0 ∨ i = 1) with rfl | rfl
      · rw [x0]; decide
      · rw [x1]; decide
    · rcases (by omega : i = 0 ∨ i = 1) with rfl | rfl
      · rw [x0]; decide
      · rw [x1]; decide
    · rcases (by omega : i = 0 ∨ i = 1) with rfl | rfl
      · rw [y0]; decide
      · rw [y1]; decide
    · rcases (by omega : i = 0 ∨ i = 1) with rfl | rfl
      · rw [y0]; decide
      · rw [y1]; decide
    · obtain rfl : i = 0 := by omega
      rw [x0, x1]; decide
  unfold atv
  rw [if_pos ((chk_ok _ _ _).2 hg), lim_id c0 c1]
  by_cases h : c = 65535
  · subst h
    exact val_knot hg 1 (by decide)
  · have hcnt : cnt (At.X [⟨0, 0⟩, ⟨65535, 65535⟩]) c 2 0 = 1 := cnt_eq c 1 (by decide) (fun j hj => by (obtain rfl : j = 0 := (by omega)); rw [x0]; exact c0) (fun _ => by rw [x1]; omega)
    unfold val
    rw [hcnt]
    show At.Y [⟨0, 0⟩, ⟨65535, 65535⟩] 0 + rdiv ((At.Y [⟨0, 0⟩, ⟨65535, 65535⟩] 1 - At.Y [⟨0, 0⟩, ⟨65535, 65535⟩] 0) * (c - At.X [⟨0, 0⟩, ⟨65535, 65535⟩] 0)) (At.X [⟨0, 0⟩, ⟨65535, 65535⟩] 1 - At.X [⟨0, 0⟩, ⟨65535, 65535⟩] 0) = c
    rw [x0, x1, y0, y1, Int.sub_zero, Int.sub_zero, Int.zero_add, Int.mul_comm, rdiv_mul _ _ (by decide)]
theorem none_4 (c : Int) (c0 : 0 ≤ c) (c1 : c ≤ 65535) : brightV 0 0 c = c := by
  unfold brightV
  rw [Int.add_zero, Int.add_zero, rdiv_mul _ _ (by decide), show 32768 + (c - 32768) = c by omega, lim_id c0 c1]
theorem none_8 (r g b : Int) (r0 : 0 ≤ r) (r1 : r ≤ 65535) (g0 : 0 ≤ g) (g1 : g ≤ 65535) (b0 : 0 ≤ b) (b1 : b ≤ 65535) : mixerV 65535 0 0 r g b = r ∧ mixerV 0 65535 0 r g b = g ∧ mixerV 0 0 65535 r g b = b := by
  unfold mixerV
  rw [show 65535 * r + 0 * g + 0 * b = r * 65535 by omega, show 0 * r + 65535 * g + 0 * b = g * 65535 by omega, show 0 * r + 0 * g + 65535 * b = b * 65535 by omega, rdiv_mul _ _ (by decide), rdiv_mul _ _ (by decide), rdiv_mul _ _ (by decide), lim_id r0 r1, lim_id g0 g1, lim_id b0 b1]
  exact ⟨rfl, rfl, rfl⟩
theorem none_11 (c : Int) (c0 : 0 ≤ c) (c1 : c ≤ 65535) : expoV 0 0 c = c := by
  unfold expoV
  rw [if_pos (by decide)]
  show lim (rdiv (c * factor 0 * 2 ^ 0) 65536 + 0) = c
  rw [show factor 0 = 65536 from rfl, show (2 : Int) ^ 0 = 1 from rfl, Int.mul_one, rdiv_mul _ _ (by decide), Int.add_zero, lim_id c0 c1]
theorem none_pix (k : Int) (l : List Int) (R G B A : Int) (V : Vld R G B A) (ha : A ≠ 0) (h : (k = 2 ∧ l = [0, 65535, 16, 0, 65535]) ∨ (k = 3 ∧ l = [0, 0, 65535, 65535]) ∨ (k = 4 ∧ l = [0, 0]) ∨ (k = 8 ∧ l = [65535, 0, 0, 0, 65535, 0, 0, 0, 65535]) ∨ (k = 11 ∧ l = [0, 0])) :
    pixErr k l [] R G B A = 0 ∧ pixAns k l [] R G B A = ⟨R, G, B, A⟩ := by
  have hc : checkV k l [] = 0 := by
    rcases h with ⟨rfl, rfl⟩ | ⟨rfl, rfl⟩ | ⟨rfl, rfl⟩ | ⟨rfl, rfl⟩ | ⟨rfl, rfl⟩ <;> kernel_rfl
  have e : pixErr k l [] R G B A = 0 := by
    unfold pixErr
    rw [if_pos hc, if_pos ((vldB_iff _ _ _ _).2 V)]
  refine ⟨e, ?_⟩
  unfold pixAns
  rw [if_pos e]
  unfold appPix
  rw [if_neg ha]
  obtain ⟨r0, r1, g0, g1, b0, b1, _, _⟩ := V
  rcases h with ⟨rfl, rfl⟩ | ⟨rfl, rfl⟩ | ⟨rfl, rfl⟩ | ⟨rfl, rfl⟩ | ⟨rfl, rfl⟩
  · show (⟨levelsV 0 65535 16 0 65535 R, levelsV 0 65535 16 0 65535 G, levelsV 0 65535 16 0 65535 B, A⟩ : S45) = _
    rw [none_2 R r0 r1, none_2 G g0 g1, none_2 B b0 b1]
  · show (⟨curvV [0, 0, 65535, 65535] R, curvV [0, 0, 65535, 65535] G, curvV [0, 0, 65535, 65535] B, A⟩ : S45) = _
    rw [none_3 R r0 r1, none_3 G g0 g1, none_3 B b0 b1]
  · show (⟨brightV 0 0 R, brightV 0 0 G, brightV 0 0 B, A⟩ : S45) = _
    rw [none_4 R r0 r1, none_4 G g0 g1, none_4 B b0 b1]
  · show (⟨mixerV 65535 0 0 R G B, mixerV 0 65535 0 R G B, mixerV 0 0 65535 R G B, A⟩ : S45) = _
    obtain ⟨e1, e2, e3⟩ := none_8 R G B r0 r1 g0 g1 b0 b1
    rw [e1, e2, e3]
  · show (⟨expoV 0 0 R, expoV 0 0 G, expoV 0 0 B, A⟩ : S45) = _
    rw [none_11 R r0 r1, none_11 G g0 g1, none_11 B b0 b1]

/-! ### adjust.Default -/
set_option maxRecDepth 100000 in
theorem default_2 (w : World) : Calls Try.prog 46 #[.int .i64 2] w fun e w' => e = .returned (.tuple #[.slice (some ⟨w.heap.size, 0, none⟩) 5 5, .int .i64 0]) ∧ w'.heap[w.heap.size]? = some (.cells #[.int .i64 0, .int .i64 65535, .int .i64 16, .int .i64 0, .int .i64 65535] 3 (0, 0)) ∧ Below w.heap.size w w' := by
  have HN := Aside0.mk (blk_new w (.cells #[.int .i64 0, .int .i64 65535, .int .i64 16, .int .i64 0, .int .i64 65535] 3))
  have HB := Aside0.mk (below_alloc (Below.refl w.heap.size w) (.cells #[.int .i64 0, .int .i64 65535, .int .i64 16, .int .i64 0, .int .i64 65535] 3))
  go_enter Try.func46, Try.ntmps46
  go_wp2
  refine bodyPost_ret (v := .tuple #[.slice (some ⟨w.heap.size, 0, none⟩) 5 5, .int .i64 0]) (by simp [results, Try.results46, go_sem]) rfl ⟨rfl, HN.out, HB.out⟩
set_option maxRecDepth 100000 in
theorem default_3 (w : World) : Calls Try.prog 46 #[.int .i64 3] w fun e w' => e = .returned (.tuple #[.slice (some ⟨w.heap.size, 0, none⟩) 4 4, .int .i64 0]) ∧ w'.heap[w.heap.size]? = some (.cells #[.int .i64 0, .int .i64 0, .int .i64 65535, .int .i64 65535] 3 (0, 0)) ∧ Below w.heap.size w w' := by
  have HN := Aside0.mk (blk_new w (.cells #[.int .i64 0, .int .i64 0, .int .i64 65535, .int .i64 65535] 3))
  have HB := Aside0.mk (below_alloc (Below.refl w.heap.size w) (.cells #[.int .i64 0, .int .i64 0, .int .i64 65535, .int .i64 65535] 3))
  go_enter Try.func46, Try.ntmps46
  go_wp2
  refine bodyPost_ret (v := .tuple #[.slice (some ⟨w.heap.size, 0, none⟩) 4 4, .int .i64 0]) (by simp [results, Try.results46, go_sem]) rfl ⟨rfl, HN.out, HB.out⟩
set_option maxRecDepth 100000 in
theorem default_4 (w : World) : Calls Try.prog 46 #[.int .i64 4] w fun e w' => e = .returned (.tuple #[.slice (some ⟨w.heap.size, 0, none⟩) 2 2, .int .i64 0]) ∧ w'.heap[w.heap.size]? = some (.cells #[.int .i64 0, .int .i64 0] 3 (0, 0)) ∧ Below w.heap.size w w' := by
  have HN := Aside0.mk (blk_new w (.cells #[.int .i64 0, .int .i64 0] 3))
  have HB := Aside0.mk (below_alloc (Below.refl w.heap.size w) (.cells #[.int .i64 0, .int .i64 0] 3))
  go_enter Try.func46, Try.ntmps46
  go_wp2
  refine bodyPost_ret (v := .tuple #[.slice (some ⟨w.heap.size, 0, none⟩) 2 2, .int .i64 0]) (by simp [results, Try.results46, go_sem]) rfl ⟨rfl, HN.out, HB.out⟩
set_option maxRecDepth 100000 in
theorem default_11 (w : World) : Calls Try.prog 46 #[.int .i64 11] w fun e w' => e = .returned (.tuple #[.slice (some ⟨w.heap.size, 0, none⟩) 2 2, .int .i64 0]) ∧ w'.heap[w.heap.size]? = some (.cells #[.int .i64 0, .int .i64 0] 3 (0, 0)) ∧ Below w.heap.size w w' := by
  have HN := Aside0.mk (blk_new w (.cells #[.int .i64 0, .int .i64 0] 3))
  have HB := Aside0.mk (below_alloc (Below.refl w.heap.size w) (.cells #[.int .i64 0, .int .i64 0] 3))
  go_enter Try.func46, Try.ntmps46
  go_wp2
  refine bodyPost_ret (v := .tuple #[.slice (some ⟨w.heap.size, 0, none⟩) 2 2, .int .i64 0]) (by simp [results, Try.results46, go_sem]) rfl ⟨rfl, HN.out, HB.out⟩
set_option maxRecDepth 100000 in
theorem default_5 (w : World) : Calls Try.prog 46 #[.int .i64 5] w fun e w' => e = .returned (.tuple #[.slice (some ⟨w.heap.size, 0, none⟩) 3 3, .int .i64 0]) ∧ w'.heap[w.heap.size]? = some (.cells #[.int .i64 0, .int .i64 0, .int .i64 0] 3 (0, 0)) ∧ Below w.heap.size w w' := by
  have HN := Aside0.mk (blk_new w (.cells #[.int .i64 0, .int .i64 0, .int .i64 0] 3))
  have HB := Aside0.mk (below_alloc (Below.refl w.heap.size w) (.cells #[.int .i64 0, .int .i64 0, .int .i64 0] 3))
  go_enter Try.func46, Try.ntmps46
  go_wp2
  refine bodyPost_ret (v := .tuple #[.slice (some ⟨w.heap.size, 0, none⟩) 3 3, .int .i64 0]) (by simp [results, Try.results46, go_sem]) rfl ⟨rfl, HN.out, HB.out⟩
set_option maxRecDepth 100000 in
theorem default_6 (w : World) : Calls Try.prog 46 #[.int .i64 6] w fun e w' => e = .returned (.tuple #[.slice (some ⟨w.heap.size, 0, none⟩) 1 1, .int .i64 0]) ∧ w'.heap[w.heap.size]? = some (.cells #[.int .i64 32768] 3 (0, 0)) ∧ Below w.heap.size w w' := by
  have HN := Aside0.mk (blk_new w (.cells #[.int .i64 32768] 3))
  have HB := Aside0.mk (below_alloc (Below.refl w.heap.size w) (.cells #[.int .i64 32768] 3))
  go_enter Try.func46, Try.ntmps46
  go_wp2
  refine bodyPost_ret (v := .tuple #[.slice (some ⟨w.heap.size, 0, none⟩) 1 1, .int .i64 0]) (by simp [results, Try.results46, go_sem]) rfl ⟨rfl, HN.out, HB.out⟩
set_option maxRecDepth 100000 in
theorem default_7 (w : World) : Calls Try.prog 46 #[.int .i64 7] w fun e w' => e = .returned (.tuple #[.slice (some ⟨w.heap.size, 0, none⟩) 1 1, .int .i64 0]) ∧ w'.heap[w.heap.size]? = some (.cells #[.int .i64 4] 3 (0, 0)) ∧ Below w.heap.size w w' := by
  have HN := Aside0.mk (blk_new w (.cells #[.int .i64 4] 3))
  have HB := Aside0.mk (below_alloc (Below.refl w.heap.size w) (.cells #[.int .i64 4] 3))
  go_enter Try.func46, Try.ntmps46
  go_wp2
  refine bodyPost_ret (v := .tuple #[.slice (some ⟨w.heap.size, 0, none⟩) 1 1, .int .i64 0]) (by simp [results, Try.results46, go_sem]) rfl ⟨rfl, HN.out, HB.out⟩
set_option maxRecDepth 100000 in
theorem default_8 (w : World) : Calls Try.prog 46 #[.int .i64 8] w fun e w' => e = .returned (.tuple #[.slice (some ⟨w.heap.size, 0, none⟩) 9 9, .int .i64 0]) ∧ w'.heap[w.heap.size]? = some (.cells #[.int .i64 65535, .int .i64 0, .int .i64 0, .int .i64 0, .int .i64 65535, .int .i64 0, .int .i64 0, .int .i64 0, .int .i64 65535] 3 (0, 0)) ∧ Below w.heap.size w w' := by
  have HN := Aside0.mk (blk_new w (.cells #[.int .i64 65535, .int .i64 0, .int .i64 0, .int .i64 0, .int .i64 65535, .int .i64 0, .int .i64 0, .int .i64 0, .int .i64 65535] 3))
  have HB := Aside0.mk (below_alloc (Below.refl w.heap.size w) (.cells #[.int .i64 65535, .int .i64 0, .int .i64 0, .int .i64 0, .int .i64 65535, .int .i64 0, .int .i64 0, .int .i64 0, .int .i64 65535] 3))
  go_enter Try.func46, Try.ntmps46
  go_wp2
  refine bodyPost_ret (v := .tuple #[.slice (some ⟨w.heap.size, 0, none⟩) 9 9, .int .i64 0]) (by simp [results, Try.results46, go_sem]) rfl ⟨rfl, HN.out, HB.out⟩
set_option maxRecDepth 100000 in
theorem default_9 (w : World) : Calls Try.prog 46 #[.int .i64 9] w fun e w' => e = .returned (.tuple #[.slice (some ⟨w.heap.size, 0, none⟩) 3 3, .int .i64 0]) ∧ w'.heap[w.heap.size]? = some (.cells #[.int .i64 13933, .int .i64 46871, .int .i64 4731] 3 (0, 0)) ∧ Below w.heap.size w w' := by
  have HN := Aside0.mk (blk_new w (.cells #[.int .i64 13933, .int .i64 46871, .int .i64 4731] 3))
  have HB := Aside0.mk (below_alloc (Below.refl w.heap.size w) (.cells #[.int .i64 13933, .int .i64 46871, .int .i64 4731] 3))
  go_enter Try.func46, Try.ntmps46
  go_wp2
  refine bodyPost_ret (v := .tuple #[.slice (some ⟨w.heap.size, 0, none⟩) 3 3, .int .i64 0]) (by simp [results, Try.results46, go_sem]) rfl ⟨rfl, HN.out, HB.out⟩
end Go.Proofs.Ytmgpmpiondciiaa.Adj
