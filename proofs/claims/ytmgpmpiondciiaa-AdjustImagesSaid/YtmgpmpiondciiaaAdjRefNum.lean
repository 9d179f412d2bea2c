/- The reference's numbers and pixels as contracts. No condition but the bounds of each theorem. -/
import Derived.Test.YtmgpmpiondciiaaAdjQuiet
import Derived.Test.YtmgpmpiondciiaaCoreN
namespace Go.Proofs.Ytmgpmpiondciiaa.Adj
open Go.RowKit Go.Proofs.Ytmgpmpiondciiaa.PAdjustImages Go.Proofs.YtmgpmpiondciiaaW.PrintWords Go.Proofs.YtmgpmpiondciiaaW.PrintMore Go.Proofs.Ytmgpmpiondciiaa.Plain
/-! ### the reference's Unit, Floor, Div -/
theorem refunit_f (x : Int) : imageeditorref01_Unit.f x = some (lim x) := by
  unfold imageeditorref01_Unit.f imageeditorref01_Clamp.f mn mx lim
  simp only [Option.bind_some]
  congr 1
  repeat' split
  all_goals omega

theorem refabs_f (x : Int) (h0 : -4611686018427387904 ≤ x) (h1 : x ≤ 4611686018427387904) : imageeditorref01_Abs.f x = some (if x < 0 then -x else x) := by
  unfold imageeditorref01_Abs.f
  have e : ∀ z : Int, IntKind.u64.wrap z = z % 18446744073709551616 := fun z => by
    simp [IntKind.wrap_u64]
  by_cases h : x < 0
  · rw [if_pos h, if_pos h, e, e]
    congr 1
    omega
  · rw [if_neg h, if_neg h, e]
    congr 1
    omega

theorem reffloor_f (k : Nat) (a b : Int) (hk : 1 ≤ k) (hb : 0 < b) (ha : -4611686018427387904 ≤ a) (ha2 : a ≤ 4611686018427387904) : ∃ f, imageeditorref01_Floor.f k a b = some f ∧ b * f ≤ a ∧ a < b * f + b ∧ -4611686018427387904 ≤ f ∧ f ≤ 4611686018427387904 := by
  obtain ⟨h1, h2, h3⟩ := floor_end a b hb ha ha2
  obtain ⟨k, rfl⟩ : ∃ m, k = m + 1 := ⟨k - 1, by omega⟩
  unfold imageeditorref01_Floor.f
  rw [if_neg (by omega), if_neg (by omega)]
  simp only [imageeditorref01_Floor.j0]
  rw [if_neg (by simp), if_neg (by omega)]
  by_cases hm : Int.tmod a b = 0
  · rw [if_pos hm]
    exact ⟨_, rfl, h1 hm⟩
  · rw [if_neg hm]
    by_cases hs : a < 0
    · have := (h2 hm hs).1
      rw [if_pos (by simp [this]; omega)]
      exact ⟨_, rfl, (h2 hm hs).2⟩
    · have := (h3 hm (by omega)).1
      rw [if_neg (by simp; omega)]
      exact ⟨_, rfl, (h3 hm (by omega)).2⟩

theorem refdiv_f (k : Nat) (a b : Int) (hk : 1 ≤ k) (hb : 0 < b) (hb2 : b ≤ 4611686018427387904) (ha : -4611686018427387904 ≤ a) (ha2 : a ≤ 4611686018427387904) : imageeditorref01_Div.f k a b = some (rdiv a b) := by
  obtain ⟨f, hf, h1, h2, h3, h4⟩ := reffloor_f k a b hk hb ha ha2
  obtain ⟨k, rfl⟩ : ∃ m, k = m + 1 := ⟨k - 1, by omega⟩
  unfold imageeditorref01_Div.f
  rw [if_neg (by omega), hf]
  simp only [Option.bind_some]
  rw [if_neg (by omega)]
  simp only [imageeditorref01_Div.j0]
  have e : ∀ z : Int, IntKind.u64.wrap z = z % 18446744073709551616 := fun z => by
    simp [IntKind.wrap_u64]
  rw [if_neg (by simp), wr (b * f) (by omega) (by omega), wr (a - b * f) (by omega) (by omega), refabs_f _ (by omega) (by omega), refabs_f _ (by omega) (by omega)]
  simp only [Option.bind_some]
  rw [show (if a - b * f < 0 then -(a - b * f) else a - b * f) = a - b * f from if_neg (by omega), show (if b < 0 then -b else b) = b from if_neg (by omega), rdiv_floor a b f hb h1 h2, e]
  by_cases hc : b - (a - b * f) ≤ a - b * f
  · rw [if_pos (by omega), if_pos hc, wr (f + 1) (by omega) (by omega)]
  · rw [if_neg (by omega), if_neg hc]

theorem rdivR (a b : Int) (w : World) (hb : 0 < b) (hb2 : b ≤ 4611686018427387904) (ha : -4611686018427387904 ≤ a) (ha2 : a ≤ 4611686018427387904) : Qt 53 #[.int .i64 a, .int .i64 b] w (.int .i64 (rdiv a b)) :=
  (imageeditorref01_Div.calls 1 a b _ w (refdiv_f 1 a b (by omega) hb hb2 ha ha2)).mono fun _ _ ⟨he, hd⟩ => ⟨he, hd.out⟩
theorem absR (x : Int) (w : World) (h0 : -4611686018427387904 ≤ x) (h1 : x ≤ 4611686018427387904) : Calls Try.prog 64 #[.int .i64 x] w fun e w' => e = .returned (.int .i64 (mx x (-x))) ∧ Below w.heap.size w w' :=
  imageeditorref17_abs.calls x _ w (by unfold imageeditorref17_abs.f; rw [wr (-x) (by omega) (by omega)])
theorem mnmx_lim2 (x : Int) : mn (mx x 0) 65535 = lim x := by
  unfold mn mx lim
  repeat' split
  all_goals omega
theorem limR (x : Int) (w : World) : Calls Try.prog 66 #[.int .i64 x] w fun e w' => e = .returned (.int .i64 (lim x)) ∧ Below w.heap.size w w' :=
  imageeditorref17_unit.calls x _ w (by unfold imageeditorref17_unit.f; rw [mnmx_lim2])
theorem ruF (x : Int) : imageeditorref06_U.f x = some (lim x) := by
  unfold imageeditorref06_U.f imageeditorref01_Clamp.f
  simp only [Option.bind_some]
  rw [mnmx_lim]
theorem LimitR (r g b a : Int) (w : World) : Calls Try.prog 63 #[.agg #[.int .i64 r, .int .i64 g, .int .i64 b, .int .i64 a]] w fun e w' => e = .returned (.agg #[.int .i64 (lim r), .int .i64 (lim g), .int .i64 (lim b), .int .i64 (lim a)]) ∧ Below w.heap.size w w' := by
  refine imageeditorref06_Limit.calls r g b a _ _ _ _ w ?_
  unfold imageeditorref06_Limit.f
  rw [ruF, ruF, ruF, ruF]
  rfl
theorem beq_swap (x y : Int) : (x == y) = (y == x) := by
  by_cases h : x = y
  · subst h; rfl
  · rw [show (x == y) = false by simpa using h, show (y == x) = false by simpa using fun e : y = x => h e.symm]
theorem ValidR (r g b a : Int) (w : World) : Calls Try.prog 61 #[.agg #[.int .i64 r, .int .i64 g, .int .i64 b, .int .i64 a]] w fun e w' => e = .returned (.bool (vldB r g b a)) ∧ Below w.heap.size w w' := by
  refine imageeditorref06_Valid.calls r g b a _ w ?_
  unfold imageeditorref06_Valid.f imageeditorref06_Limit.f
  rw [ruF, ruF, ruF, ruF]
  simp only [Option.bind_some]
  unfold vldB
  rw [beq_swap (lim r), beq_swap (lim g), beq_swap (lim b), beq_swap (lim a)]
theorem mulR (a b : Int) (w : World) (ha0 : 0 ≤ a) (ha1 : a ≤ 65535) (hb0 : 0 ≤ b) (hb1 : b ≤ 65535) : Calls Try.prog 89 #[.int .i64 a, .int .i64 b] w fun e w' => e = .returned (.int .i64 (rdiv (a * b) 65535)) ∧ Below w.heap.size w w' := by
  refine imageeditorref01_Mul.calls 1 a b _ w ?_
  have h1 : a * b ≤ 65535 * b := Int.mul_le_mul_of_nonneg_right ha1 hb0
  have h0 : 0 ≤ a * b := Int.mul_nonneg ha0 hb0
  unfold imageeditorref01_Mul.f
  rw [refunit_f, refunit_f, lim_id ha0 ha1, lim_id hb0 hb1]
  simp only [Option.bind_some]
  rw [wr (a * b) (by omega) (by omega), refdiv_f 1 _ _ (by omega) (by omega) (by omega) (by omega) (by omega)]
  rfl
theorem lumaR (r g b a : Int) (w : World) (h : Vld r g b a) : Calls Try.prog 90 #[.agg #[.int .i64 r, .int .i64 g, .int .i64 b, .int .i64 a]] w fun e w' => e = .returned (.int .i64 (lumaV r g b)) ∧ Below w.heap.size w w' := by
  refine imageeditorref06_Luma.calls 1 r g b a _ w ?_
  unfold imageeditorref06_Luma.f imageeditorref06_Limit.f
  obtain ⟨r0, r1, g0, g1, b0, b1, a0, a1⟩ := h
  rw [ruF, ruF, ruF, ruF, lim_id r0 r1, lim_id g0 g1, lim_id b0 b1, lim_id a0 a1]
  simp only [Option.bind_some]
  rw [wr (13933 * r) (by omega) (by omega), wr (46871 * g) (by omega) (by omega), wr (4731 * b) (by omega) (by omega), wr (13933 * r + 46871 * g) (by omega) (by omega), wr _ (by omega) (by omega), refdiv_f 1 _ _ (by omega) (by omega) (by omega) (by omega) (by omega)]
  rfl
end Go.Proofs.Ytmgpmpiondciiaa.Adj
