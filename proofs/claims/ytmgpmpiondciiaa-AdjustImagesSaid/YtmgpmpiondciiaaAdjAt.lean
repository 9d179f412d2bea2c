/- curve.At, as a plain function of a list and a number. No condition. -/
import Derived.Test.YtmgpmpiondciiaaCore
import Derived.Test.YtmgpmpiondciiaaMath
import Derived.Lib.Hide
namespace Go.Proofs.Ytmgpmpiondciiaa.At
open Go.RowKit Go.Proofs.Ytmgpmpiondciiaa.PAt Go.Proofs.YtmgpmpiondciiaaW.PrintWords Go.Proofs.YtmgpmpiondciiaaW.PrintLast Go.Proofs.YtmgpmpiondciiaaW.PrintMore Go.Proofs.Ytmgpmpiondciiaa.Plain

/-- The knots' places and values, by their number. -/
def X (l : List S42) (i : Nat) : Int := (l.getD i z42).f0
def Y (l : List S42) (i : Nat) : Int := (l.getD i z42).f1
theorem rdX (l : List S42) (i : Nat) : (rd_T42 l (i : Int)).f0 = X l i := rfl
theorem rdY (l : List S42) (i : Nat) : (rd_T42 l (i : Int)).f1 = Y l i := rfl
theorem rdX0 (l : List S42) : (rd_T42 l 0).f0 = X l 0 := rfl
theorem rdY0 (l : List S42) : (rd_T42 l 0).f1 = Y l 0 := rfl
theorem wr (x : Int) (h0 : -9223372036854775808 ≤ x) (h1 : x ≤ 9223372036854775807) : wrap64 x = x := by unfold wrap64; omega
theorem wr_up (i : Nat) (h : i ≤ 100000) : wrap64 ((i : Int) + 1) = ((i + 1 : Nat) : Int) := by rw [wr _ (by omega) (by omega)]; omega
theorem wr_down (i : Nat) (h : i ≤ 100000) (h0 : 0 < i) : wrap64 ((i : Int) - 1) = ((i - 1 : Nat) : Int) := by rw [wr _ (by omega) (by omega)]; omega

/-! ### num.Clamp, num.Floor, num.Div -/
theorem clamp_unit (x : Int) : num_Clamp.f x 0 65535 = some (lim x) := by
  unfold num_Clamp.f mn mx lim
  congr 1
  repeat' split
  all_goals omega

/-- The floor's two parts: for a negative number by the parts of its opposite. -/
theorem floor_parts (a b : Int) : (0 ≤ a → Int.tdiv a b = a / b ∧ Int.tmod a b = a % b) ∧ (a < 0 → Int.tdiv a b = -((-a) / b) ∧ Int.tmod a b = -((-a) % b)) := by
  constructor
  · intro h
    exact ⟨Int.tdiv_eq_ediv_of_nonneg h, Int.tmod_eq_emod_of_nonneg h⟩
  · intro h
    have h1 : a = -(-a) := by omega
    constructor
    · rw [h1, Int.neg_tdiv, Int.tdiv_eq_ediv_of_nonneg (by omega)]
      simp
    · rw [h1, Int.neg_tmod, Int.tmod_eq_emod_of_nonneg (by omega)]
      simp

/-- What both Floors come to: a number f with b f at most a, and b (f + 1) more. -/
theorem floor_end (a b : Int) (hb : 0 < b) (ha : -4611686018427387904 ≤ a) (ha2 : a ≤ 4611686018427387904) :
    (Int.tmod a b = 0 → b * (wrap64 (Int.tdiv a b)) ≤ a ∧ a < b * (wrap64 (Int.tdiv a b)) + b ∧ -4611686018427387904 ≤ wrap64 (Int.tdiv a b) ∧ wrap64 (Int.tdiv a b) ≤ 4611686018427387904) ∧
    (Int.tmod a b ≠ 0 → a < 0 → Int.tmod a b < 0 ∧ b * (wrap64 (wrap64 (Int.tdiv a b) - 1)) ≤ a ∧ a < b * (wrap64 (wrap64 (Int.tdiv a b) - 1)) + b ∧ -4611686018427387904 ≤ wrap64 (wrap64 (Int.tdiv a b) - 1) ∧ wrap64 (wrap64 (Int.tdiv a b) - 1) ≤ 4611686018427387904) ∧
    (Int.tmod a b ≠ 0 → 0 ≤ a → 0 ≤ Int.tmod a b ∧ b * (wrap64 (Int.tdiv a b)) ≤ a ∧ a < b * (wrap64 (Int.tdiv a b)) + b ∧ -4611686018427387904 ≤ wrap64 (Int.tdiv a b) ∧ wrap64 (Int.tdiv a b) ≤ 4611686018427387904) := by
  obtain ⟨hp, hn⟩ := floor_parts a b
  rcases (by omega : 0 ≤ a ∨ a < 0) with h | h
  · obtain ⟨e1, e2⟩ := hp h
    have h1 := Int.mul_ediv_add_emod a b
    have h2 := Int.emod_nonneg a (show b ≠ 0 by omega)
    have h3 := Int.emod_lt_of_pos a hb
    have h4 : a / b ≤ a := Int.ediv_le_self b h
    have h5 : 0 ≤ a / b := Int.ediv_nonneg h (by omega)
    rw [e1, e2, wr (a / b) (by omega) (by omega)]
    exact ⟨fun _ => by omega, fun _ _ => by omega, fun _ _ => by omega⟩
  · obtain ⟨e1, e2⟩ := hn h
    have h1 := Int.mul_ediv_add_emod (-a) b
    have h2 := Int.emod_nonneg (-a) (show b ≠ 0 by omega)
    have h3 := Int.emod_lt_of_pos (-a) hb
    have h4 : (-a) / b ≤ (-a) := Int.ediv_le_self b (by omega)
    have h5 : 0 ≤ (-a) / b := Int.ediv_nonneg (by omega) (by omega)
    rw [e1, e2, wr (-((-a) / b)) (by omega) (by omega)]
    have h6 : b * (-((-a) / b)) = -(b * ((-a) / b)) := Int.mul_neg _ _
    have h7 : b * (-((-a) / b) - 1) = -(b * ((-a) / b)) - b := by rw [Int.mul_sub, h6, Int.mul_one]
    refine ⟨fun _ => by omega, fun hm _ => ?_, fun _ _ => by omega⟩
    have h8 : -4611686018427387904 ≤ -((-a) / b) - 1 := by
      rcases (by omega : b = 1 ∨ 2 ≤ b) with h9 | h9
      · subst h9; simp at hm
      · have : 2 * ((-a) / b) ≤ b * ((-a) / b) := Int.mul_le_mul_of_nonneg_right h9 h5
        omega
    rw [wr (-((-a) / b) - 1) (by omega) (by omega)]
    omega

theorem floor_f (a b : Int) (hb : 0 < b) (ha : -4611686018427387904 ≤ a) (ha2 : a ≤ 4611686018427387904) : ∃ f, num_Floor.f a b = some f ∧ b * f ≤ a ∧ a < b * f + b ∧ -4611686018427387904 ≤ f ∧ f ≤ 4611686018427387904 := by
  obtain ⟨h1, h2, h3⟩ := floor_end a b hb ha ha2
  unfold num_Floor.f
  rw [if_neg (by omega), if_neg (by omega)]
  by_cases hm : Int.tmod a b = 0
  · rw [if_pos hm]
    exact ⟨_, rfl, h1 hm⟩
  · rw [if_neg hm]
    by_cases hs : a < 0
    · rw [if_pos (by simp [hs]; omega)]
      exact ⟨_, rfl, (h2 hm hs).2⟩
    · rw [if_neg (by simp [hs]; omega)]
      exact ⟨_, rfl, (h3 hm (by omega)).2⟩

theorem div_f (k : Nat) (a b : Int) (hk : 1 ≤ k) (hb : 0 < b) (hb2 : b ≤ 4611686018427387904) (ha : -4611686018427387904 ≤ a) (ha2 : a ≤ 4611686018427387904) : num_Div.f k a b = some (rdiv a b) := by
  obtain ⟨f, hf, h1, h2, h3, h4⟩ := floor_f a b hb ha ha2
  obtain ⟨k, rfl⟩ : ∃ m, k = m + 1 := ⟨k - 1, by omega⟩
  unfold num_Div.f
  rw [hf]
  simp only [Option.bind_some]
  rw [if_neg (by omega), show (b == -1) = false by simp; omega]
  simp only [num_Div.j0]
  rw [if_neg (by simp), if_pos (by omega)]
  have e1 : f * b = b * f := Int.mul_comm f b
  rw [e1, wr (b * f) (by omega) (by omega), wr (a - b * f) (by omega) (by omega), wr (b - (a - b * f)) (by omega) (by omega)]
  rw [rdiv_floor a b f hb h1 h2]
  by_cases hc : b - (a - b * f) ≤ a - b * f
  · rw [if_pos hc, if_pos hc, wr (f + 1) (by omega) (by omega)]
  · rw [if_neg hc, if_neg hc, if_neg (by omega)]

/-! ### curve.Check -/
theorem check_loop (l : List S42) : ∀ (d i k : Nat), i + d = l.length → l.length ≤ 16 → 2 * d < k → curve_Check.l0 k l l (l.length : Int) (i : Int) = some (chkI (X l) (Y l) d i) := by
  intro d
  induction d with
  | zero =>
    intro i k hd hn hk
    obtain ⟨k, rfl⟩ : ∃ m, k = m + 1 := ⟨k - 1, by omega⟩
    simp only [curve_Check.l0]
    rw [if_neg (by omega)]
    rfl
  | succ d ih =>
    intro i k hd hn hk
    obtain ⟨k, rfl⟩ : ∃ m, k = m + 2 := ⟨k - 2, by omega⟩
    have hj : ∀ b : Bool, (b = true ↔ (X l i < 0 ∨ Y l i < 0 ∨ 65535 < X l i ∨ 65535 < Y l i)) → curve_Check.j1 (k + 1) l (i : Int) l (l.length : Int) (i : Int) b (X l i) (Y l i) = some (chkI (X l) (Y l) (d + 1) i) := by
      intro b hb
      simp only [curve_Check.j1]
      unfold chkI
      by_cases h1 : b = true
      · rw [if_pos h1, if_pos (hb.1 h1)]
      · rw [if_neg h1, if_neg (fun h => h1 (hb.2 h))]
        by_cases h2 : 0 < i
        · rw [if_pos (by omega), wr_down i (by omega) h2, if_pos (by omega), if_pos (by omega), rdX]
          by_cases h3 : X l i ≤ X l (i - 1)
          · rw [if_pos h3, if_pos ⟨h2, h3⟩]
          · rw [if_neg h3, if_neg (fun h => h3 h.2), wr_up i (by omega)]
            exact ih (i + 1) k (by omega) hn (by omega)
        · rw [if_neg (by omega), if_neg (fun h => h2 h.1), wr_up i (by omega)]
          exact ih (i + 1) k (by omega) hn (by omega)
    simp only [curve_Check.l0]
    rw [if_pos (by omega), if_pos (by omega), if_pos (by omega), rdX, rdY]
    by_cases h1 : mn (X l i) (Y l i) < 0
    · rw [if_pos h1]
      refine hj true ⟨fun _ => ?_, fun _ => rfl⟩
      unfold mn at h1
      split at h1 <;> omega
    · rw [if_neg h1]
      refine hj _ ?_
      rw [decide_eq_true_eq]
      unfold mn at h1
      unfold mx
      split at h1 <;> split <;> omega

theorem check_f (k : Nat) (l : List S42) (hk : 40 ≤ k) : curve_Check.f k l = some (chk (X l) (Y l) l.length) := by
  unfold curve_Check.f chk
  by_cases h1 : l.length < 2
  · rw [if_pos (by omega), if_pos h1]
  · rw [if_neg (by omega), if_neg h1]
    by_cases h2 : 16 < l.length
    · rw [if_pos (by omega), if_pos h2]
    · rw [if_neg (by omega), if_neg h2]
      exact check_loop l l.length 0 k (by omega) (by omega) (by omega)

/-! ### curve.Rising -/
structure Rise (l : List S42) : Prop where
  good : GoodCurve (X l) (Y l) l.length
  fx : X l 0 = 0
  fy : Y l 0 = 0
  lx : X l (l.length - 1) = 65535
  ly : Y l (l.length - 1) = 65535
  up : ∀ i, i + 1 < l.length → Y l i < Y l (i + 1)

/-! ### curve.between, curve.At -/
theorem wr_add_pos (a b : Int) (h0 : -9223372036854775808 ≤ a + b) (h1 : a + b ≤ 9223372036854775807) : wrap64 (a + b) = a + b := wr _ h0 h1

/-- The products in a line stay small. -/
theorem line_small (dy dt : Int) (h0 : -65535 ≤ dy) (h1 : dy ≤ 65535) (h2 : 0 ≤ dt) (h3 : dt ≤ 65535) : -4294836225 ≤ dy * dt ∧ dy * dt ≤ 4294836225 := by
  have a : dy * dt ≤ 65535 * dt := Int.mul_le_mul_of_nonneg_right h1 h2
  have b : -65535 * dt ≤ dy * dt := Int.mul_le_mul_of_nonneg_right h0 h2
  omega

theorem line_range {l : List S42} (G : GoodCurve (X l) (Y l) l.length) (i : Nat) (x : Int) (h0 : 0 < i) (h1 : i < l.length) (h2 : X l (i - 1) ≤ x) (h3 : x < X l i) : 0 ≤ line (X l) (Y l) i x ∧ line (X l) (Y l) i x ≤ 65535 := by
  have h4 := G.lt i (i - 1) (by omega) h1
  exact line_between (Y l (i - 1)) (Y l i) (X l i - X l (i - 1)) (x - X l (i - 1)) 0 65535 (by omega) (by omega) (by omega) (G.y0 _ (by omega)) (G.y0 _ h1) (G.y1 _ (by omega)) (G.y1 _ h1)

theorem between_end (l : List S42) (x : Int) (G : GoodCurve (X l) (Y l) l.length) (i k : Nat) (hi : i ≤ l.length) (h1 : 0 < i → X l (i - 1) ≤ x) (h2 : i < l.length → x < X l i) (hk : 2 ≤ k) :
    curve_between.j1 k l x (i : Int) = some (if i = 0 then Y l 0 else if i = l.length then Y l (l.length - 1) else line (X l) (Y l) i x) := by
  obtain ⟨k, rfl⟩ : ∃ m, k = m + 1 := ⟨k - 1, by omega⟩
  have h16 := G.most
  have h02 := G.two
  simp only [curve_between.j1]
  by_cases h0 : i = 0
  · subst h0
    rw [if_pos (by omega), if_pos (by omega), if_pos rfl, rdY0]
  · rw [if_neg (by omega), if_neg h0, wr_down i (by omega) (by omega), if_pos (by omega), if_pos (by omega), rdY, rdX]
    by_cases hn : i = l.length
    · rw [if_pos (by omega), if_pos hn, hn]
    · rw [if_neg (by omega), if_neg hn, if_pos (by omega), if_pos (by omega), rdY, rdX]
      have a0 := G.y0 (i - 1) (by omega)
      have a1 := G.y1 (i - 1) (by omega)
      have a2 := G.y0 i (by omega)
      have a3 := G.y1 i (by omega)
      have b0 := G.x0 (i - 1) (by omega)
      have b3 := G.x1 i (by omega)
      have h4 := h1 (by omega)
      have h5 := h2 (by omega)
      have h6 := line_small (Y l i - Y l (i - 1)) (x - X l (i - 1)) (by omega) (by omega) (by omega) (by omega)
      have h7 := line_range G i x (by omega) (by omega) h4 h5
      rw [wr (Y l i - Y l (i - 1)) (by omega) (by omega), wr (x - X l (i - 1)) (by omega) (by omega), wr (X l i - X l (i - 1)) (by omega) (by omega), wr _ (by omega) (by omega), div_f _ _ _ (by omega) (by omega) (by omega) (by omega) (by omega)]
      simp only [Option.bind_some]
      unfold line at h7 ⊢
      rw [wr _ (by omega) (by omega)]

theorem between_loop (l : List S42) (x : Int) (G : GoodCurve (X l) (Y l) l.length) : ∀ (d i k : Nat), i + d = l.length → d + 3 ≤ k → (0 < i → X l (i - 1) ≤ x) →
    curve_between.l0 k l x (i : Int) = some (let c := cnt (X l) x d i; if c = 0 then Y l 0 else if c = l.length then Y l (l.length - 1) else line (X l) (Y l) c x) := by
  have h16 := G.most
  intro d
  induction d with
  | zero =>
    intro i k hd hk h1
    obtain ⟨k, rfl⟩ : ∃ m, k = m + 1 := ⟨k - 1, by omega⟩
    simp only [curve_between.l0]
    rw [if_neg (by omega), between_end l x G i k (by omega) h1 (fun h => by omega) (by omega)]
    rfl
  | succ d ih =>
    intro i k hd hk h1
    obtain ⟨k, rfl⟩ : ∃ m, k = m + 1 := ⟨k - 1, by omega⟩
    simp only [curve_between.l0]
    rw [if_pos (by omega), if_pos (by omega), rdX]
    unfold cnt
    by_cases h2 : X l i ≤ x
    · rw [if_pos h2, if_pos h2, wr_up i (by omega)]
      exact ih (i + 1) k (by omega) (by omega) (fun _ => by simpa using h2)
    · rw [if_neg h2, if_neg h2]
      exact between_end l x G i k (by omega) h1 (fun _ => by omega) (by omega)

theorem between_f (k : Nat) (l : List S42) (x : Int) (G : GoodCurve (X l) (Y l) l.length) (hk : 20 ≤ k) : curve_between.f k l x = some (val (X l) (Y l) l.length x) := by
  have h16 := G.most
  unfold curve_between.f val
  exact between_loop l x G l.length 0 k (by omega) (by omega) (fun h => by omega)

theorem at_f (k : Nat) (l : List S42) (x : Int) (hk : 40 ≤ k) : curve_At.f k l x = some (atv (X l) (Y l) l.length x) := by
  unfold curve_At.f atv
  rw [clamp_unit, check_f k l hk]
  simp only [Option.bind_some]
  by_cases h : chk (X l) (Y l) l.length = 0
  · rw [if_pos h, if_pos h, between_f k l _ ((chk_ok _ _ _).1 h) (by omega)]
    rfl
  · rw [if_neg h, if_neg h]

end Go.Proofs.Ytmgpmpiondciiaa.At
