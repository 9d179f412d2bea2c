/- The numbers' functions of package num and pixel, as contracts: what they answer is told in plain arithmetic. No condition but the bounds of each theorem. -/
import Derived.Test.YtmgpmpiondciiaaAdjBase
import Derived.Test.YtmgpmpiondciiaaCore
namespace Go.Proofs.Ytmgpmpiondciiaa.Adj
open Go.RowKit Go.Proofs.Ytmgpmpiondciiaa.PAdjustImages Go.Proofs.YtmgpmpiondciiaaW.PrintWords Go.Proofs.YtmgpmpiondciiaaW.PrintMore Go.Proofs.Ytmgpmpiondciiaa.Plain
/-! ### num.Clamp, num.Floor, num.Div -/
theorem clamp_unit (x : Int) : num_Clamp.f x 0 65535 = some (lim x) := by
  unfold num_Clamp.f mn mx lim
  congr 1
  repeat' split
  all_goals omega

/-- The floor's two parts: for a negative number by the parts of its opposite. -/
theorem floor_parts (a b : Int) : (0 ≤ a → Int.tdiv a b = a / b ∧ Int.tmod a b = a % b) ∧ (a < 0 → Int.tdiv a b = -((-a) / b) ∧ Int.tmod a b = -((-a) % b)) := by
  constructor
  · intro h
    exact ⟨Int.tdiv_eq_ediv_of_nonneg h, Int.tmod_eq_emod_of_nonneg h⟩
  · intro h
    have h1 : a = -(-a) := by omega
    constructor
    · rw [h1, Int.neg_tdiv, Int.tdiv_eq_ediv_of_nonneg (by omega)]
      simp
    · rw [h1, Int.neg_tmod, Int.tmod_eq_emod_of_nonneg (by omega)]
      simp

/-- What both Floors come to: a number f with b f at most a, and b (f + 1) more. -/
theorem floor_end (a b : Int) (hb : 0 < b) (ha : -4611686018427387904 ≤ a) (ha2 : a ≤ 4611686018427387904) :
    (Int.tmod a b = 0 → b * (wrap64 (Int.tdiv a b)) ≤ a ∧ a < b * (wrap64 (Int.tdiv a b)) + b ∧ -4611686018427387904 ≤ wrap64 (Int.tdiv a b) ∧ wrap64 (Int.tdiv a b) ≤ 4611686018427387904) ∧
    (Int.tmod a b ≠ 0 → a < 0 → Int.tmod a b < 0 ∧ b * (wrap64 (wrap64 (Int.tdiv a b) - 1)) ≤ a ∧ a < b * (wrap64 (wrap64 (Int.tdiv a b) - 1)) + b ∧ -4611686018427387904 ≤ wrap64 (wrap64 (Int.tdiv a b) - 1) ∧ wrap64 (wrap64 (Int.tdiv a b) - 1) ≤ 4611686018427387904) ∧
    (Int.tmod a b ≠ 0 → 0 ≤ a → 0 ≤ Int.tmod a b ∧ b * (wrap64 (Int.tdiv a b)) ≤ a ∧ a < b * (wrap64 (Int.tdiv a b)) + b ∧ -4611686018427387904 ≤ wrap64 (Int.tdiv a b) ∧ wrap64 (Int.tdiv a b) ≤ 4611686018427387904) := by
  obtain ⟨hp, hn⟩ := floor_parts a b
  rcases (by omega : 0 ≤ a ∨ a < 0) with h | h
  · obtain ⟨e1, e2⟩ := hp h
    have h1 := Int.mul_ediv_add_emod a b
    have h2 := Int.emod_nonneg a (show b ≠ 0 by omega)
    have h3 := Int.emod_lt_of_pos a hb
    have h4 : a / b ≤ a := Int.ediv_le_self b h
    have h5 : 0 ≤ a / b := Int.ediv_nonneg h (by omega)
    rw [e1, e2, wr (a / b) (by omega) (by omega)]
    exact ⟨fun _ => by omega, fun _ _ => by omega, fun _ _ => by omega⟩
  · obtain ⟨e1, e2⟩ := hn h
    have h1 := Int.mul_ediv_add_emod (-a) b
    have h2 := Int.emod_nonneg (-a) (show b ≠ 0 by omega)
    have h3 := Int.emod_lt_of_pos (-a) hb
    have h4 : (-a) / b ≤ (-a) := Int.ediv_le_self b (by omega)
    have h5 : 0 ≤ (-a) / b := Int.ediv_nonneg (by omega) (by omega)
    rw [e1, e2, wr (-((-a) / b)) (by omega) (by omega)]
    have h6 : b * (-((-a) / b)) = -(b * ((-a) / b)) := Int.mul_neg _ _
    have h7 : b * (-((-a) / b) - 1) = -(b * ((-a) / b)) - b := by rw [Int.mul_sub, h6, Int.mul_one]
    refine ⟨fun _ => by omega, fun hm _ => ?_, fun _ _ => by omega⟩
    have h8 : -4611686018427387904 ≤ -((-a) / b) - 1 := by
      rcases (by omega : b = 1 ∨ 2 ≤ b) with h9 | h9
      · subst h9; simp at hm
      · have : 2 * ((-a) / b) ≤ b * ((-a) / b) := Int.mul_le_mul_of_nonneg_right h9 h5
        omega
    rw [wr (-((-a) / b) - 1) (by omega) (by omega)]
    omega

theorem floor_f (a b : Int) (hb : 0 < b) (ha : -4611686018427387904 ≤ a) (ha2 : a ≤ 4611686018427387904) : ∃ f, num_Floor.f a b = some f ∧ b * f ≤ a ∧ a < b * f + b ∧ -4611686018427387904 ≤ f ∧ f ≤ 4611686018427387904 := by
  obtain ⟨h1, h2, h3⟩ := floor_end a b hb ha ha2
  unfold num_Floor.f
  rw [if_neg (by omega), if_neg (by omega)]
  by_cases hm : Int.tmod a b = 0
  · rw [if_pos hm]
    exact ⟨_, rfl, h1 hm⟩
  · rw [if_neg hm]
    by_cases hs : a < 0
    · rw [if_pos (by simp [hs]; omega)]
      exact ⟨_, rfl, (h2 hm hs).2⟩
    · rw [if_neg (by simp [hs]; omega)]
      exact ⟨_, rfl, (h3 hm (by omega)).2⟩

theorem div_f (k : Nat) (a b : Int) (hk : 1 ≤ k) (hb : 0 < b) (hb2 : b ≤ 4611686018427387904) (ha : -4611686018427387904 ≤ a) (ha2 : a ≤ 4611686018427387904) : num_Div.f k a b = some (rdiv a b) := by
  obtain ⟨f, hf, h1, h2, h3, h4⟩ := floor_f a b hb ha ha2
  obtain ⟨k, rfl⟩ : ∃ m, k = m + 1 := ⟨k - 1, by omega⟩
  unfold num_Div.f
  rw [hf]
  simp only [Option.bind_some]
  rw [if_neg (by omega), show (b == -1) = false by simp; omega]
  simp only [num_Div.j0]
  rw [if_neg (by simp), if_pos (by omega)]
  have e1 : f * b = b * f := Int.mul_comm f b
  rw [e1, wr (b * f) (by omega) (by omega), wr (a - b * f) (by omega) (by omega), wr (b - (a - b * f)) (by omega) (by omega)]
  rw [rdiv_floor a b f hb h1 h2]
  by_cases hc : b - (a - b * f) ≤ a - b * f
  · rw [if_pos hc, if_pos hc, wr (f + 1) (by omega) (by omega)]
  · rw [if_neg hc, if_neg hc, if_neg (by omega)]


theorem div_any (a b : Int) (w : World) (hb : 0 < b) (hb2 : b ≤ 4611686018427387904) (ha : -4611686018427387904 ≤ a) (ha2 : a ≤ 4611686018427387904) :
    Calls Try.prog 60 #[.int .i64 a, .int .i64 b] w fun e w' => e = .returned (.int .i64 (rdiv a b)) ∧ Drawn0 w w' :=
  num_Div.calls 1 a b _ w (div_f 1 a b (by omega) hb hb2 ha ha2)
theorem limit_any (x : Int) (w : World) : Calls Try.prog 65 #[.int .i64 x] w fun e w' => e = .returned (.int .i64 (lim x)) ∧ Below w.heap.size w w' :=
  adjust_limit.calls x _ w (by unfold adjust_limit.f; rw [clamp_unit]; rfl)
theorem unit_any (x : Int) (w : World) : Calls Try.prog 94 #[.int .i64 x] w fun e w' => e = .returned (.int .i64 (lim x)) ∧ Below w.heap.size w w' :=
  pixel_unit.calls x _ w (by unfold pixel_unit.f; rw [clamp_unit]; rfl)
theorem Limit_any (r g b a : Int) (w : World) : Calls Try.prog 62 #[.agg #[.int .i64 r, .int .i64 g, .int .i64 b, .int .i64 a]] w fun e w' => e = .returned (.agg #[.int .i64 (lim r), .int .i64 (lim g), .int .i64 (lim b), .int .i64 (lim a)]) ∧ Below w.heap.size w w' := by
  refine pixel_Limit.calls r g b a _ _ _ _ w ?_
  unfold pixel_Limit.f pixel_unit.f
  rw [clamp_unit, clamp_unit, clamp_unit, clamp_unit]
  rfl

/-- A pixel all of whose values are unit values. -/
structure Vld (r g b a : Int) : Prop where
  r0 : 0 ≤ r
  r1 : r ≤ 65535
  g0 : 0 ≤ g
  g1 : g ≤ 65535
  b0 : 0 ≤ b
  b1 : b ≤ 65535
  a0 : 0 ≤ a
  a1 : a ≤ 65535
def vldB (r g b a : Int) : Bool := r == lim r && (g == lim g && (b == lim b && a == lim a))
theorem lim_eq (x : Int) : x = lim x ↔ 0 ≤ x ∧ x ≤ 65535 := by
  constructor
  · intro h
    have := lim_range x
    omega
  · intro h
    exact (lim_id h.1 h.2).symm
theorem vldB_iff (r g b a : Int) : vldB r g b a = true ↔ Vld r g b a := by
  unfold vldB
  simp only [Bool.and_eq_true, beq_iff_eq, lim_eq]
  constructor
  · intro ⟨h1, h2, h3, h4⟩
    exact ⟨h1.1, h1.2, h2.1, h2.2, h3.1, h3.2, h4.1, h4.2⟩
  · intro h
    exact ⟨⟨h.r0, h.r1⟩, ⟨h.g0, h.g1⟩, ⟨h.b0, h.b1⟩, ⟨h.a0, h.a1⟩⟩
theorem Valid_any (r g b a : Int) (w : World) : Calls Try.prog 44 #[.agg #[.int .i64 r, .int .i64 g, .int .i64 b, .int .i64 a]] w fun e w' => e = .returned (.bool (vldB r g b a)) ∧ Below w.heap.size w w' := by
  refine pixel_Valid.calls r g b a _ w ?_
  unfold pixel_Valid.f pixel_Limit.f pixel_unit.f
  rw [clamp_unit, clamp_unit, clamp_unit, clamp_unit]
  rfl

def lumaV (r g b : Int) : Int := rdiv (13933 * r + 46871 * g + 4731 * b) 65535
theorem luma_any (r g b a : Int) (w : World) (h : Vld r g b a) : Calls Try.prog 82 #[.agg #[.int .i64 r, .int .i64 g, .int .i64 b, .int .i64 a]] w fun e w' => e = .returned (.int .i64 (lumaV r g b)) ∧ Below w.heap.size w w' := by
  refine pixel_Luma.calls 1 r g b a _ w ?_
  unfold pixel_Luma.f pixel_Limit.f pixel_unit.f
  obtain ⟨r0, r1, g0, g1, b0, b1, a0, a1⟩ := h
  rw [clamp_unit, clamp_unit, clamp_unit, clamp_unit, lim_id r0 r1, lim_id g0 g1, lim_id b0 b1, lim_id a0 a1]
  simp only [Option.bind_some]
  rw [wr (13933 * r) (by omega) (by omega), wr (46871 * g) (by omega) (by omega), wr (4731 * b) (by omega) (by omega), wr (13933 * r + 46871 * g) (by omega) (by omega), wr _ (by omega) (by omega), div_f 1 _ _ (by omega) (by omega) (by omega) (by omega) (by omega)]
  rfl
theorem luma_range (r g b a : Int) (h : Vld r g b a) : 0 ≤ lumaV r g b ∧ lumaV r g b ≤ 65535 := by
  obtain ⟨r0, r1, g0, g1, b0, b1, a0, a1⟩ := h
  exact rdiv_between _ _ 0 65535 (by omega) (by omega) (by omega)
theorem gray_any (r g b a v : Int) (w : World) : Calls Try.prog 83 #[.agg #[.int .i64 r, .int .i64 g, .int .i64 b, .int .i64 a], .int .i64 v] w fun e w' => e = .returned (.agg #[.int .i64 v, .int .i64 v, .int .i64 v, .int .i64 a]) ∧ Below w.heap.size w w' :=
  adjust_gray.calls r g b a v _ _ _ _ w rfl
theorem mul_any (a b : Int) (w : World) (ha0 : 0 ≤ a) (ha1 : a ≤ 65535) (hb0 : 0 ≤ b) (hb1 : b ≤ 65535) : Calls Try.prog 98 #[.int .i64 a, .int .i64 b] w fun e w' => e = .returned (.int .i64 (rdiv (a * b) 65535)) ∧ Below w.heap.size w w' := by
  refine num_Mul.calls a b _ w ?_
  have hu : ∀ x : Int, 0 ≤ x → x ≤ 65535 → num_unit.f x = some x := by
    intro x h0 h1
    unfold num_unit.f mn mx
    congr 1
    repeat' split
    all_goals omega
  unfold num_Mul.f
  rw [hu a ha0 ha1, hu b hb0 hb1]
  simp only [Option.bind_some]
  have h1 : a * b ≤ 65535 * b := Int.mul_le_mul_of_nonneg_right ha1 hb0
  have h0 : 0 ≤ a * b := Int.mul_nonneg ha0 hb0
  have e : 2 * a * b = 2 * (a * b) := Int.mul_assoc 2 a b
  rw [wr (2 * a) (by omega) (by omega), e, wr (2 * (a * b)) (by omega) (by omega), wr (2 * (a * b) + 65535) (by omega) (by omega), Int.tdiv_eq_ediv_of_nonneg (by omega), wr _ (by omega) (by omega)]
  rfl
end Go.Proofs.Ytmgpmpiondciiaa.Adj
