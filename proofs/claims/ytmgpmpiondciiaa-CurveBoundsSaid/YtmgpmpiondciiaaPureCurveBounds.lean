/- The bounds of curve.At, as plain functions of lists and numbers. No condition. -/
import Derived.Test.YtmgpmpiondciiaaPCurveBoundsx4
import Derived.Test.YtmgpmpiondciiaaMath
import Derived.Lib.Hide
namespace Go.Proofs.Ytmgpmpiondciiaa.Pure
open Go.RowKit Go.Proofs.Ytmgpmpiondciiaa.PCurveBounds Go.Proofs.YtmgpmpiondciiaaW.PrintWords Go.Proofs.YtmgpmpiondciiaaW.PrintLast Go.Proofs.YtmgpmpiondciiaaW.PrintMore Go.Proofs.Ytmgpmpiondciiaa.Plain

/-- The knots' places and values, by their number. -/
def X (l : List S42) (i : Nat) : Int := (l.getD i z42).f0
def Y (l : List S42) (i : Nat) : Int := (l.getD i z42).f1
theorem rdX (l : List S42) (i : Nat) : (rd_T42 l (i : Int)).f0 = X l i := rfl
theorem rdY (l : List S42) (i : Nat) : (rd_T42 l (i : Int)).f1 = Y l i := rfl
theorem rdX0 (l : List S42) : (rd_T42 l 0).f0 = X l 0 := rfl
theorem rdY0 (l : List S42) : (rd_T42 l 0).f1 = Y l 0 := rfl
theorem wr (x : Int) (h0 : -9223372036854775808 ≤ x) (h1 : x ≤ 9223372036854775807) : wrap64 x = x := by unfold wrap64; omega
theorem wr_up (i : Nat) (h : i ≤ 100000) : wrap64 ((i : Int) + 1) = ((i + 1 : Nat) : Int) := by rw [wr _ (by omega) (by omega)]; omega
theorem wr_down (i : Nat) (h : i ≤ 100000) (h0 : 0 < i) : wrap64 ((i : Int) - 1) = ((i - 1 : Nat) : Int) := by rw [wr _ (by omega) (by omega)]; omega

/-! ### num.Clamp, num.Floor, num.Div -/
theorem clamp_unit (x : Int) : num_Clamp.f x 0 65535 = some (lim x) := by
  unfold num_Clamp.f mn mx lim
  congr 1
  repeat' split
  all_goals omega

/-- The floor's two parts: for a negative number by the parts of its opposite. -/
theorem floor_parts (a b : Int) : (0 ≤ a → Int.tdiv a b = a / b ∧ Int.tmod a b = a % b) ∧ (a < 0 → Int.tdiv a b = -((-a) / b) ∧ Int.tmod a b = -((-a) % b)) := by
  constructor
  · intro h
    exact ⟨Int.tdiv_eq_ediv_of_nonneg h, Int.tmod_eq_emod_of_nonneg h⟩
  · intro h
    have h1 : a = -(-a) := by omega
    constructor
    · rw [h1, Int.neg_tdiv, Int.tdiv_eq_ediv_of_nonneg (by omega)]
      simp
    · rw [h1, Int.neg_tmod, Int.tmod_eq_emod_of_nonneg (by omega)]
      simp

/-- What both Floors come to: a number f with b f at most a, and b (f + 1) more. -/
theorem floor_end (a b : Int) (hb : 0 < b) (ha : -4611686018427387904 ≤ a) (ha2 : a ≤ 4611686018427387904) :
    (Int.tmod a b = 0 → b * (wrap64 (Int.tdiv a b)) ≤ a ∧ a < b * (wrap64 (Int.tdiv a b)) + b ∧ -4611686018427387904 ≤ wrap64 (Int.tdiv a b) ∧ wrap64 (Int.tdiv a b) ≤ 4611686018427387904) ∧
    (Int.tmod a b ≠ 0 → a < 0 → Int.tmod a b < 0 ∧ b * (wrap64 (wrap64 (Int.tdiv a b) - 1)) ≤ a ∧ a < b * (wrap64 (wrap64 (Int.tdiv a b) - 1)) + b ∧ -4611686018427387904 ≤ wrap64 (wrap64 (Int.tdiv a b) - 1) ∧ wrap64 (wrap64 (Int.tdiv a b) - 1) ≤ 4611686018427387904) ∧
    (Int.tmod a b ≠ 0 → 0 ≤ a → 0 ≤ Int.tmod a b ∧ b * (wrap64 (Int.tdiv a b)) ≤ a ∧ a < b * (wrap64 (Int.tdiv a b)) + b ∧ -4611686018427387904 ≤ wrap64 (Int.tdiv a b) ∧ wrap64 (Int.tdiv a b) ≤ 4611686018427387904) := by
  obtain ⟨hp, hn⟩ := floor_parts a b
  rcases (by omega : 0 ≤ a ∨ a < 0) with h | h
  · obtain ⟨e1, e2⟩ := hp h
    have h1 := Int.mul_ediv_add_emod a b
    have h2 := Int.emod_nonneg a (show b ≠ 0 by omega)
    have h3 := Int.emod_lt_of_pos a hb
    have h4 : a / b ≤ a := Int.ediv_le_self b h
    have h5 : 0 ≤ a / b := Int.ediv_nonneg h (by omega)
    rw [e1, e2, wr (a / b) (by omega) (by omega)]
    exact ⟨fun _ => by omega, fun _ _ => by omega, fun _ _ => by omega⟩
  · obtain ⟨e1, e2⟩ := hn h
    have h1 := Int.mul_ediv_add_emod (-a) b
    have h2 := Int.emod_nonneg (-a) (show b ≠ 0 by omega)
    have h3 := Int.emod_lt_of_pos (-a) hb
    have h4 : (-a) / b ≤ (-a) := Int.ediv_le_self b (by omega)
    have h5 : 0 ≤ (-a) / b := Int.ediv_nonneg (by omega) (by omega)
    rw [e1, e2, wr (-((-a) / b)) (by omega) (by omega)]
    have h6 : b * (-((-a) / b)) = -(b * ((-a) / b)) := Int.mul_neg _ _
    have h7 : b * (-((-a) / b) - 1) = -(b * ((-a) / b)) - b := by rw [Int.mul_sub, h6, Int.mul_one]
    refine ⟨fun _ => by omega, fun hm _ => ?_, fun _ _ => by omega⟩
    have h8 : -4611686018427387904 ≤ -((-a) / b) - 1 := by
      rcases (by omega : b = 1 ∨ 2 ≤ b) with h9 | h9
      · subst h9; simp at hm
      · have : 2 * ((-a) / b) ≤ b * ((-a) / b) := Int.mul_le_mul_of_nonneg_right h9 h5
        omega
    rw [wr (-((-a) / b) - 1) (by omega) (by omega)]
    omega

theorem floor_f (a b : Int) (hb : 0 < b) (ha : -4611686018427387904 ≤ a) (ha2 : a ≤ 4611686018427387904) : ∃ f, num_Floor.f a b = some f ∧ b * f ≤ a ∧ a < b * f + b ∧ -4611686018427387904 ≤ f ∧ f ≤ 4611686018427387904 := by
  obtain ⟨h1, h2, h3⟩ := floor_end a b hb ha ha2
  unfold num_Floor.f
  rw [if_neg (by omega), if_neg (by omega)]
  by_cases hm : Int.tmod a b = 0
  · rw [if_pos hm]
    exact ⟨_, rfl, h1 hm⟩
  · rw [if_neg hm]
    by_cases hs : a < 0
    · rw [if_pos (by simp [hs]; omega)]
      exact ⟨_, rfl, (h2 hm hs).2⟩
    · rw [if_neg (by simp [hs]; omega)]
      exact ⟨_, rfl, (h3 hm (by omega)).2⟩

theorem div_f (k : Nat) (a b : Int) (hk : 1 ≤ k) (hb : 0 < b) (hb2 : b ≤ 4611686018427387904) (ha : -4611686018427387904 ≤ a) (ha2 : a ≤ 4611686018427387904) : num_Div.f k a b = some (rdiv a b) := by
  obtain ⟨f, hf, h1, h2, h3, h4⟩ := floor_f a b hb ha ha2
  obtain ⟨k, rfl⟩ : ∃ m, k = m + 1 := ⟨k - 1, by omega⟩
  unfold num_Div.f
  rw [hf]
  simp only [Option.bind_some]
  rw [if_neg (by omega), show (b == -1) = false by simp; omega]
  simp only [num_Div.j0]
  rw [if_neg (by simp), if_pos (by omega)]
  have e1 : f * b = b * f := Int.mul_comm f b
  rw [e1, wr (b * f) (by omega) (by omega), wr (a - b * f) (by omega) (by omega), wr (b - (a - b * f)) (by omega) (by omega)]
  rw [rdiv_floor a b f hb h1 h2]
  by_cases hc : b - (a - b * f) ≤ a - b * f
  · rw [if_pos hc, if_pos hc, wr (f + 1) (by omega) (by omega)]
  · rw [if_neg hc, if_neg hc, if_neg (by omega)]

/-! ### curve.Check -/
theorem check_loop (l : List S42) : ∀ (d i k : Nat), i + d = l.length → l.length ≤ 16 → 2 * d < k → curve_Check.l0 k l l (l.length : Int) (i : Int) = some (chkI (X l) (Y l) d i) := by
  intro d
  induction d with
  | zero =>
    intro i k hd hn hk
    obtain ⟨k, rfl⟩ : ∃ m, k = m + 1 := ⟨k - 1, by omega⟩
    simp only [curve_Check.l0]
    rw [if_neg (by omega)]
    rfl
  | succ d ih =>
    intro i k hd hn hk
    obtain ⟨k, rfl⟩ : ∃ m, k = m + 2 := ⟨k - 2, by omega⟩
    have hj : ∀ b : Bool, (b = true ↔ (X l i < 0 ∨ Y l i < 0 ∨ 65535 < X l i ∨ 65535 < Y l i)) → curve_Check.j1 (k + 1) l (i : Int) l (l.length : Int) (i : Int) b (X l i) (Y l i) = some (chkI (X l) (Y l) (d + 1) i) := by
      intro b hb
      simp only [curve_Check.j1]
      unfold chkI
      by_cases h1 : b = true
      · rw [if_pos h1, if_pos (hb.1 h1)]
      · rw [if_neg h1, if_neg (fun h => h1 (hb.2 h))]
        by_cases h2 : 0 < i
        · rw [if_pos (by omega), wr_down i (by omega) h2, if_pos (by omega), if_pos (by omega), rdX]
          by_cases h3 : X l i ≤ X l (i - 1)
          · rw [if_pos h3, if_pos ⟨h2, h3⟩]
          · rw [if_neg h3, if_neg (fun h => h3 h.2), wr_up i (by omega)]
            exact ih (i + 1) k (by omega) hn (by omega)
        · rw [if_neg (by omega), if_neg (fun h => h2 h.1), wr_up i (by omega)]
          exact ih (i + 1) k (by omega) hn (by omega)
    simp only [curve_Check.l0]
    rw [if_pos (by omega), if_pos (by omega), if_pos (by omega), rdX, rdY]
    by_cases h1 : mn (X l i) (Y l i) < 0
    · rw [if_pos h1]
      refine hj true ⟨fun _ => ?_, fun _ => rfl⟩
      unfold mn at h1
      split at h1 <;> omega
    · rw [if_neg h1]
      refine hj _ ?_
      rw [decide_eq_true_eq]
      unfold mn at h1
      unfold mx
      split at h1 <;> split <;> omega

theorem check_f (k : Nat) (l : List S42) (hk : 40 ≤ k) : curve_Check.f k l = some (chk (X l) (Y l) l.length) := by
  unfold curve_Check.f chk
  by_cases h1 : l.length < 2
  · rw [if_pos (by omega), if_pos h1]
  · rw [if_neg (by omega), if_neg h1]
    by_cases h2 : 16 < l.length
    · rw [if_pos (by omega), if_pos h2]
    · rw [if_neg (by omega), if_neg h2]
      exact check_loop l l.length 0 k (by omega) (by omega) (by omega)

/-! ### curve.Rising -/
structure Rise (l : List S42) : Prop where
  good : GoodCurve (X l) (Y l) l.length
  fx : X l 0 = 0
  fy : Y l 0 = 0
  lx : X l (l.length - 1) = 65535
  ly : Y l (l.length - 1) = 65535
  up : ∀ i, i + 1 < l.length → Y l i < Y l (i + 1)

theorem rising_loop (l : List S42) : ∀ (d i k : Nat), i + d = l.length → 0 < i → l.length ≤ 16 → d < k → ((∀ j, i ≤ j → j < l.length → Y l (j - 1) < Y l j) → curve_Rising.l0 k l (i : Int) = some true) ∧ (¬ (∀ j, i ≤ j → j < l.length → Y l (j - 1) < Y l j) → curve_Rising.l0 k l (i : Int) = some false) := by
  intro d
  induction d with
  | zero =>
    intro i k hd hi hn hk
    obtain ⟨k, rfl⟩ : ∃ m, k = m + 1 := ⟨k - 1, by omega⟩
    simp only [curve_Rising.l0]
    rw [if_neg (by omega)]
    exact ⟨fun _ => rfl, fun h => absurd (fun j h1 h2 => by omega) h⟩
  | succ d ih =>
    intro i k hd hi hn hk
    obtain ⟨k, rfl⟩ : ∃ m, k = m + 1 := ⟨k - 1, by omega⟩
    simp only [curve_Rising.l0]
    rw [if_pos (by omega), if_pos (by omega), wr_down i (by omega) hi, if_pos (by omega), if_pos (by omega), rdY, rdY, wr_up i (by omega)]
    obtain ⟨i1, i2⟩ := ih (i + 1) k (by omega) (by omega) hn (by omega)
    by_cases h1 : Y l i ≤ Y l (i - 1)
    · rw [if_pos h1]
      exact ⟨fun h => by have := h i (Nat.le_refl _) (by omega); omega, fun _ => rfl⟩
    · rw [if_neg h1]
      constructor
      · intro h
        exact i1 (fun j h2 h3 => h j (by omega) h3)
      · intro h
        refine i2 (fun h2 => h (fun j h3 h4 => ?_))
        rcases Nat.eq_or_lt_of_le h3 with rfl | h5
        · omega
        · exact h2 j h5 h4

theorem neq_flag (a b c d : Int) : (!(a == b) || !(c == d)) = true ↔ ¬ (a = b ∧ c = d) := by
  by_cases h1 : a = b <;> by_cases h2 : c = d <;> simp [h1, h2]

theorem rising_f (k : Nat) (l : List S42) (hk : 60 ≤ k) : (Rise l → curve_Rising.f k l = some true) ∧ (¬ Rise l → curve_Rising.f k l = some false) := by
  unfold curve_Rising.f
  rw [check_f k l (by omega)]
  simp only [Option.bind_some]
  obtain ⟨k, rfl⟩ : ∃ m, k = m + 1 := ⟨k - 1, by omega⟩
  by_cases hg : chk (X l) (Y l) l.length = 0
  · have G := (chk_ok _ _ _).1 hg
    have g2 := G.two
    have g16 := G.most
    rw [if_pos hg, if_pos (by omega), wr_down l.length (by omega) (by omega), rdX, rdY, rdX0, rdY0]
    by_cases h1 : X l 0 = 0 ∧ Y l 0 = 0
    · rw [if_neg (by rw [neq_flag]; simp [h1]), if_pos (by omega), if_pos (by omega)]
      simp only [curve_Rising.j0]
      by_cases h2 : X l (l.length - 1) = 65535 ∧ Y l (l.length - 1) = 65535
      · rw [if_neg (by rw [neq_flag]; simp [h2])]
        obtain ⟨i1, i2⟩ := rising_loop l (l.length - 1) 1 k (by omega) (by omega) (by omega) (by omega)
        constructor
        · intro h
          refine i1 (fun j h3 h4 => ?_)
          have := h.up (j - 1) (by omega)
          rw [show j - 1 + 1 = j by omega] at this
          exact this
        · intro h
          refine i2 (fun h3 => h ⟨G, h1.1, h1.2, h2.1, h2.2, fun i hi => ?_⟩)
          have := h3 (i + 1) (by omega) hi
          simpa using this
      · rw [if_pos (by rw [neq_flag]; exact h2)]
        exact ⟨fun h => absurd ⟨h.lx, h.ly⟩ h2, fun _ => rfl⟩
    · rw [if_pos (by rw [neq_flag]; exact h1)]
      simp only [curve_Rising.j0]
      exact ⟨fun h => absurd ⟨h.fx, h.fy⟩ h1, fun _ => rfl⟩
  · rw [if_neg hg]
    simp only [curve_Rising.j0]
    exact ⟨fun h => absurd ((chk_ok _ _ _).2 h.good) hg, fun _ => rfl⟩

/-! ### the chapter's examples -/
theorem example_at : imageeditorlaw07_example.f 100 = some true := by decide +kernel
theorem example_f (k : Nat) (hk : 100 ≤ k) : imageeditorlaw07_example.f k = some true := at_rounds (fun k => imageeditorlaw07_example.mono k) hk example_at

/-! ### curve.between, curve.At -/
theorem wr_add_pos (a b : Int) (h0 : -9223372036854775808 ≤ a + b) (h1 : a + b ≤ 9223372036854775807) : wrap64 (a + b) = a + b := wr _ h0 h1

/-- The products in a line stay small. -/
theorem line_small (dy dt : Int) (h0 : -65535 ≤ dy) (h1 : dy ≤ 65535) (h2 : 0 ≤ dt) (h3 : dt ≤ 65535) : -4294836225 ≤ dy * dt ∧ dy * dt ≤ 4294836225 := by
  have a : dy * dt ≤ 65535 * dt := Int.mul_le_mul_of_nonneg_right h1 h2
  have b : -65535 * dt ≤ dy * dt := Int.mul_le_mul_of_nonneg_right h0 h2
  omega

theorem line_range {l : List S42} (G : GoodCurve (X l) (Y l) l.length) (i : Nat) (x : Int) (h0 : 0 < i) (h1 : i < l.length) (h2 : X l (i - 1) ≤ x) (h3 : x < X l i) : 0 ≤ line (X l) (Y l) i x ∧ line (X l) (Y l) i x ≤ 65535 := by
  have h4 := G.lt i (i - 1) (by omega) h1
  exact line_between (Y l (i - 1)) (Y l i) (X l i - X l (i - 1)) (x - X l (i - 1)) 0 65535 (by omega) (by omega) (by omega) (G.y0 _ (by omega)) (G.y0 _ h1) (G.y1 _ (by omega)) (G.y1 _ h1)

theorem between_end (l : List S42) (x : Int) (G : GoodCurve (X l) (Y l) l.length) (i k : Nat) (hi : i ≤ l.length) (h1 : 0 < i → X l (i - 1) ≤ x) (h2 : i < l.length → x < X l i) (hk : 2 ≤ k) :
    curve_between.j1 k l x (i : Int) = some (if i = 0 then Y l 0 else if i = l.length then Y l (l.length - 1) else line (X l) (Y l) i x) := by
  obtain ⟨k, rfl⟩ : ∃ m, k = m + 1 := ⟨k - 1, by omega⟩
  have h16 := G.most
  have h02 := G.two
  simp only [curve_between.j1]
  by_cases h0 : i = 0
  · subst h0
    rw [if_pos (by omega), if_pos (by omega), if_pos rfl, rdY0]
  · rw [if_neg (by omega), if_neg h0, wr_down i (by omega) (by omega), if_pos (by omega), if_pos (by omega), rdY, rdX]
    by_cases hn : i = l.length
    · rw [if_pos (by omega), if_pos hn, hn]
    · rw [if_neg (by omega), if_neg hn, if_pos (by omega), if_pos (by omega), rdY, rdX]
      have a0 := G.y0 (i - 1) (by omega)
      have a1 := G.y1 (i - 1) (by omega)
      have a2 := G.y0 i (by omega)
      have a3 := G.y1 i (by omega)
      have b0 := G.x0 (i - 1) (by omega)
      have b3 := G.x1 i (by omega)
      have h4 := h1 (by omega)
      have h5 := h2 (by omega)
      have h6 := line_small (Y l i - Y l (i - 1)) (x - X l (i - 1)) (by omega) (by omega) (by omega) (by omega)
      have h7 := line_range G i x (by omega) (by omega) h4 h5
      rw [wr (Y l i - Y l (i - 1)) (by omega) (by omega), wr (x - X l (i - 1)) (by omega) (by omega), wr (X l i - X l (i - 1)) (by omega) (by omega), wr _ (by omega) (by omega), div_f _ _ _ (by omega) (by omega) (by omega) (by omega) (by omega)]
      simp only [Option.bind_some]
      unfold line at h7 ⊢
      rw [wr _ (by omega) (by omega)]

theorem between_loop (l : List S42) (x : Int) (G : GoodCurve (X l) (Y l) l.length) : ∀ (d i k : Nat), i + d = l.length → d + 3 ≤ k → (0 < i → X l (i - 1) ≤ x) →
    curve_between.l0 k l x (i : Int) = some (let c := cnt (X l) x d i; if c = 0 then Y l 0 else if c = l.length then Y l (l.length - 1) else line (X l) (Y l) c x) := by
  have h16 := G.most
  intro d
  induction d with
  | zero =>
    intro i k hd hk h1
    obtain ⟨k, rfl⟩ : ∃ m, k = m + 1 := ⟨k - 1, by omega⟩
    simp only [curve_between.l0]
    rw [if_neg (by omega), between_end l x G i k (by omega) h1 (fun h => by omega) (by omega)]
    rfl
  | succ d ih =>
    intro i k hd hk h1
    obtain ⟨k, rfl⟩ : ∃ m, k = m + 1 := ⟨k - 1, by omega⟩
    simp only [curve_between.l0]
    rw [if_pos (by omega), if_pos (by omega), rdX]
    unfold cnt
    by_cases h2 : X l i ≤ x
    · rw [if_pos h2, if_pos h2, wr_up i (by omega)]
      exact ih (i + 1) k (by omega) (by omega) (fun _ => by simpa using h2)
    · rw [if_neg h2, if_neg h2]
      exact between_end l x G i k (by omega) h1 (fun _ => by omega) (by omega)

theorem between_f (k : Nat) (l : List S42) (x : Int) (G : GoodCurve (X l) (Y l) l.length) (hk : 20 ≤ k) : curve_between.f k l x = some (val (X l) (Y l) l.length x) := by
  have h16 := G.most
  unfold curve_between.f val
  exact between_loop l x G l.length 0 k (by omega) (by omega) (fun h => by omega)

theorem at_f (k : Nat) (l : List S42) (x : Int) (hk : 40 ≤ k) : curve_At.f k l x = some (atv (X l) (Y l) l.length x) := by
  unfold curve_At.f atv
  rw [clamp_unit, check_f k l hk]
  simp only [Option.bind_some]
  by_cases h : chk (X l) (Y l) l.length = 0
  · rw [if_pos h, if_pos h, between_f k l _ ((chk_ok _ _ _).1 h) (by omega)]
    rfl
  · rw [if_neg h, if_neg h]

/-! ### the reference's Check -/
theorem refunit (x : Int) : imageeditorref07_unit.f x = some (decide (0 ≤ x ∧ x ≤ 65535)) := by
  unfold imageeditorref07_unit.f
  by_cases h : x ≥ 0
  · rw [if_pos h]; simp [h]
  · rw [if_neg h]; simp; omega

theorem refcheck_loop (l : List S42) : ∀ (d i k : Nat), i + d = l.length → l.length ≤ 16 → 2 * d < k → imageeditorref07_Check.l0 k l (i : Int) = some (chkI (X l) (Y l) d i) := by
  intro d
  induction d with
  | zero =>
    intro i k hd hn hk
    obtain ⟨k, rfl⟩ : ∃ m, k = m + 1 := ⟨k - 1, by omega⟩
    simp only [imageeditorref07_Check.l0]
    rw [if_neg (by omega)]
    rfl
  | succ d ih =>
    intro i k hd hn hk
    obtain ⟨k, rfl⟩ : ∃ m, k = m + 2 := ⟨k - 2, by omega⟩
    have hj : ∀ b : Bool, (b = true ↔ (X l i < 0 ∨ Y l i < 0 ∨ 65535 < X l i ∨ 65535 < Y l i)) → imageeditorref07_Check.j1 (k + 1) l (i : Int) b = some (chkI (X l) (Y l) (d + 1) i) := by
      intro b hb
      simp only [imageeditorref07_Check.j1]
      unfold chkI
      by_cases h1 : b = true
      · rw [if_pos h1, if_pos (hb.1 h1)]
      · rw [if_neg h1, if_neg (fun h => h1 (hb.2 h))]
        by_cases h2 : 0 < i
        · rw [if_pos (by omega), wr_down i (by omega) h2, if_pos (by omega), if_pos (by omega), if_pos (by omega), if_pos (by omega), rdX, rdX]
          by_cases h3 : X l i ≤ X l (i - 1)
          · rw [if_pos h3, if_pos ⟨h2, h3⟩]
          · rw [if_neg h3, if_neg (fun h => h3 h.2), wr_up i (by omega)]
            exact ih (i + 1) k (by omega) hn (by omega)
        · rw [if_neg (by omega), if_neg (fun h => h2 h.1), wr_up i (by omega)]
          exact ih (i + 1) k (by omega) hn (by omega)
    simp only [imageeditorref07_Check.l0]
    rw [if_pos (by omega), if_pos (by omega), rdX, rdY, refunit, refunit]
    simp only [Option.bind_some]
    by_cases h1 : 0 ≤ X l i ∧ X l i ≤ 65535
    · rw [if_pos (by simpa using h1)]
      refine hj _ ?_
      by_cases h2 : 0 ≤ Y l i ∧ Y l i ≤ 65535
      · simp only [h2]; simp; omega
      · simp only [h2]; simp; omega
    · rw [if_neg (by simpa using h1)]
      exact hj true ⟨fun _ => by omega, fun _ => rfl⟩

theorem refcheck_f (k : Nat) (l : List S42) (hk : 40 ≤ k) : imageeditorref07_Check.f k l = some (chk (X l) (Y l) l.length) := by
  unfold imageeditorref07_Check.f chk
  by_cases h1 : l.length < 2
  · rw [if_pos (by omega), if_pos h1]
  · rw [if_neg (by omega), if_neg h1]
    by_cases h2 : 16 < l.length
    · rw [if_pos (by omega), if_pos h2]
    · rw [if_neg (by omega), if_neg h2]
      exact refcheck_loop l l.length 0 k (by omega) (by omega) (by omega)

attribute [local go_sem] max2_int min2_int max_two min_two
theorem kept {w1 w' : World} (hb : Below w1.heap.size w1 w') {a : Addr} {v : Value} (h : w1.cell? a = some v) : w'.cell? a = some v := (hb.cell (World.block_lt_of_cell? w1 _ h)).trans h
theorem step {w w1 w2 : World} (h : Below w.heap.size w w1) (k : Below w1.heap.size w1 w2) : Below w.heap.size w w2 := h.trans (k.mono h.size)

/-- What the loop has found after i knots. -/
structure Found (l : List S42) (i : Int) (lo hi : Int) (up : Bool) : Prop where
  i0 : 0 ≤ i
  i1 : i ≤ l.length
  lohi : ∀ j : Nat, (j : Int) < i → lo ≤ Y l j ∧ Y l j ≤ hi
  ups : up = true → ∀ j : Nat, (j : Int) + 1 < i → Y l j ≤ Y l (j + 1)

theorem found_step {l : List S42} {i lo hi lo' hi' yi : Int} {up : Bool} (F : Found l i lo hi up) (hlt : i < (l.length : Int)) (hy : yi = (rd_T42 l i).f1) (h1 : (if yi < lo then yi else lo) = lo') (h2 : (if hi < yi then yi else hi) = hi') (up' : Bool)
    (hu : up' = true → up = true ∧ (0 < i → ∀ j : Int, j = i - 1 → (rd_T42 l j).f1 ≤ yi)) : Found l (i + 1) lo' hi' up' := by
  have i0 := F.i0
  have hi0 : (i.toNat : Int) = i := by omega
  rw [← hi0, rdY] at hy
  refine ⟨by omega, by omega, fun j hj => ?_, fun h j hj => ?_⟩
  · have hb : lo' ≤ lo ∧ lo' ≤ yi ∧ hi ≤ hi' ∧ yi ≤ hi' := by
      subst h1 h2
      refine ⟨?_, ?_, ?_, ?_⟩ <;> split <;> omega
    rcases (by omega : (j : Int) < i ∨ j = i.toNat) with h3 | h3
    · have := F.lohi j h3
      omega
    · subst h3
      omega
  · obtain ⟨h3, h4⟩ := hu h
    rcases (by omega : (j : Int) + 1 < i ∨ j + 1 = i.toNat) with h5 | h5
    · exact F.ups h3 j h5
    · have h6 := h4 (by omega) (j : Int) (by omega)
      rw [rdY] at h6
      rw [h5]
      omega
set_option maxRecDepth 100000 in
set_option maxHeartbeats 4000000 in
theorem bounds_good (A0 : Option Addr) (c0 : Nat) (l : List S42) (x y : Int) (w : World) (hr : Kd.C k42 w A0 l.length l) (hc : l.length ≤ c0) (G : GoodCurve (X l) (Y l) l.length) :
    Calls Try.prog 8 #[.slice A0 l.length c0, .int .i64 x, .int .i64 y] w fun e w' => e = .returned (.bool true) ∧ Below w.heap.size w w' := by
  have h2 := G.two
  have h16 := G.most
  have hR := Lib.hid hr
  have hch : imageeditorref07_Check.f 300 l = some 0 := by rw [refcheck_f 300 l (by omega), (chk_ok _ _ _).2 G]
  have HC := Aside0.mk hch
  have HG := Aside0.mk G
  have hat : ∀ z, curve_At.f 300 l z = some (val (X l) (Y l) l.length (lim z)) := by
    intro z
    rw [at_f 300 l z (by omega)]
    unfold atv
    rw [if_pos ((chk_ok _ _ _).2 G)]
  have HA := Aside0.mk hat
  obtain ⟨ad, e0, hx0, hy0⟩ := at_T42 hr 0 (by omega) (by omega)
  clear hch hat G hr
  subst e0
  rw [show (0 : Int).toNat * 2 = 0 from rfl, Addr.add_zero'] at hx0 hy0
  go_enter Try.func8, Try.ntmps8
  go_wp2_with (go_at_call 21; refine (imageeditorref07_Check.calls 300 _ _ l 0 _ hR.out hc HC.out).mono ?_; rintro e w' ⟨rfl, ⟨nd, rfl⟩⟩)
  go_quiet (fail)
  go_wp2
  have hB0 : Below w.heap.size w ((w.drewN nd).drewN nq) := by repeat (first | exact Below.refl _ _ | apply pw_below_drewN | apply below_drew1)
  go_loopw [7, 8, 9, 10] (fun a b c d wr => ∃ (lo hi : Int) (up : Bool) (i : Int), a = .int .i64 lo ∧ b = .int .i64 hi ∧ c = .bool up ∧ d = .int .i64 i ∧ Aside0 (Found l i lo hi up) ∧ Aside0 (Below w.heap.size w wr)) (fun _ _ _ d _ => l.length - (intOf d).toNat)
  case atStart => exact ⟨_, _, _, _, rfl, rfl, rfl, rfl, ⟨⟨by omega, by omega, fun j hj => by omega, fun _ j hj => by omega⟩⟩, ⟨hB0⟩⟩
  case round =>
    clear hB0 hx0 hy0
    obtain ⟨lo, hi, up, i, rfl, rfl, rfl, rfl, HF, HB⟩ := hrel
    have i0 := HF.out.i0
    have i1 := HF.out.i1
    by_cases hlt : i < (l.length : Int)
    · obtain ⟨ad', e1, hx1, hy1⟩ := at_T42 hR.out i i0 hlt
      obtain rfl : ad = ad' := by injection e1
      have hxr := kept HB.out hx1
      have hyr := kept HB.out hy1
      obtain ⟨xi, hxi⟩ : ∃ z, z = (rd_T42 l i).f0 := ⟨_, rfl⟩
      obtain ⟨yi, hyi⟩ : ∃ z, z = (rd_T42 l i).f1 := ⟨_, rfl⟩
      rw [← hxi] at hxr
      rw [← hyi] at hyr
      have HX := Aside0.mk hxi
      have HY := Aside0.mk hyi
      obtain ⟨lo', hlo⟩ : ∃ z, (if yi < lo then yi else lo) = z := ⟨_, rfl⟩
      obtain ⟨hi', hhi⟩ : ∃ z, (if hi < yi then yi else hi) = z := ⟨_, rfl⟩
      have HLO := Aside0.mk hlo
      have HHI := Aside0.mk hhi
      have hvi : curve_At.f 300 l xi = some yi := by
        rw [HA.out, hxi, hyi]
        have hi0 : (i.toNat : Int) = i := by omega
        rw [← hi0, rdX, rdY, lim_id (HG.out.x0 _ (by omega)) (HG.out.x1 _ (by omega)), val_knot HG.out _ (by omega)]
      have HV := Aside0.mk hvi
      clear hx1 e1 hxi hyi hvi
      have HY1 := Aside0.mk hy1
      clear hy1
      go_wp2
      go_quiet (fail)
      go_wp2_with fail
      clear hlo hhi
      have q0 : (w.heap.size ≤ wr.heap.size) := HB.out.size
      go_region_held3 (fun w' => w'.cell? (ad.add (i.toNat * 2)) = some (.int .i64 xi) ∧ w'.cell? ⟨(ad.add (i.toNat * 2)).block, (ad.add (i.toNat * 2)).off + 1, none⟩ = some (.int .i64 yi))
        (first | go_keep | exact ⟨kept hb (by assumption), kept hb (by assumption)⟩ | (go_split_ands; exact ⟨kept hb (by assumption), kept hb (by assumption)⟩))
        ((go_at_call 25; refine (curve_At.calls 300 _ _ l _ yi _ (Kd.C_below hR.out (by repeat (first | exact HB.out | apply pw_below_drewN | apply below_drew1))) hc HV.out).mono ?_; rintro e w' ⟨rfl, hb⟩))
      have HBw : Aside0 (Below w.heap.size w w') := ⟨step (by repeat (first | exact HB.out | apply pw_below_drewN | apply below_drew1)) hb⟩
      by_cases h0 : i = 0
      · have hg : decide (0 < i) = false := decide_eq_false (by omega)
        clear h0
        go_wp2
        go_quiet (fail)
        go_wp2
        go_roundw
        case rel =>
          refine ⟨lo', hi', up, i + 1, rfl, rfl, rfl, by go_num, ?_, ?_⟩
          · exact ⟨found_step HF.out hlt HY.out HLO.out HHI.out up (fun h => ⟨h, fun h1 => absurd h1 (of_decide_eq_false hg)⟩)⟩
          · exact ⟨by repeat (first | exact HBw.out | apply pw_below_drewN | apply below_drew1)⟩
        case measure => simp [intOf]; omega
      · have hg : decide (0 < i) = true := decide_eq_true (by omega)
        obtain ⟨j, hj⟩ : ∃ j, IntKind.i64.wrap (i - 1) = j := ⟨_, rfl⟩
        have hji : j = i - 1 := by rw [← hj, IntKind.wrap_i64]; omega
        have j0 : 0 ≤ j := by omega
        have j1 : j < (l.length : Int) := by omega
        have HJ := Aside0.mk hji
        clear hji
        obtain ⟨ad2, e2, hx2, hy2⟩ := at_T42 hR.out j j0 j1
        obtain rfl : ad = ad2 := by injection e2
        have hy2r := kept HBw.out hy2
        obtain ⟨yj, hyj⟩ : ∃ z, z = (rd_T42 l j).f1 := ⟨_, rfl⟩
        rw [← hyj] at hy2r
        have HYJ := Aside0.mk hyj
        have hyr' := kept HBw.out HY1.out
        rw [← HY.out] at hyr'
        clear hyj e2 hx2 hy2
        by_cases hyy : yi < yj
        · have hyd : decide (yi < yj) = true := decide_eq_true hyy
          clear hyy
          go_wp2
          go_quiet (fail)
          go_wp2
          go_roundw
          case rel =>
            refine ⟨lo', hi', false, i + 1, rfl, rfl, rfl, by go_num, ?_, ?_⟩
            · exact ⟨found_step HF.out hlt HY.out HLO.out HHI.out false (fun h => by cases h)⟩
            · exact ⟨by repeat (first | exact HBw.out | apply pw_below_drewN | apply below_drew1)⟩
          case measure => simp [intOf]; omega
        · have hyd : decide (yi < yj) = false := decide_eq_false hyy
          have HYY := Aside0.mk hyy
          clear hyy
          go_wp2
          go_quiet (fail)
          go_wp2
          go_roundw
          case rel =>
            refine ⟨lo', hi', up, i + 1, rfl, rfl, rfl, by go_num, ?_, ?_⟩
            · refine ⟨found_step HF.out hlt HY.out HLO.out HHI.out up (fun h => ⟨h, fun h1 j2 hj2 => ?_⟩)⟩
              have e : j2 = j := by rw [hj2, HJ.out]
              rw [e, ← HYJ.out]
              have := HYY.out
              omega
            · exact ⟨by repeat (first | exact HBw.out | apply pw_below_drewN | apply below_drew1)⟩
          case measure => simp [intOf]; omega
    · have hin : i = (l.length : Int) := by omega
      obtain ⟨z1, hz1⟩ : ∃ z, (if y < x then y else x) = z := ⟨_, rfl⟩
      obtain ⟨z2, hz2⟩ : ∃ z, (if x < y then y else x) = z := ⟨_, rfl⟩
      obtain ⟨v1, hv1⟩ : ∃ z, z = val (X l) (Y l) l.length (lim z1) := ⟨_, rfl⟩
      obtain ⟨v2, hv2⟩ : ∃ z, z = val (X l) (Y l) l.length (lim z2) := ⟨_, rfl⟩
      have hb1 := val_between HG.out (lim z1) lo hi (fun j hj => (HF.out.lohi j (by omega)).1) (fun j hj => (HF.out.lohi j (by omega)).2)
      have hb2 := val_between HG.out (lim z2) lo hi (fun j hj => (HF.out.lohi j (by omega)).1) (fun j hj => (HF.out.lohi j (by omega)).2)
      have hup : up = true → v1 ≤ v2 := by
        intro h
        rw [hv1, hv2]
        refine val_mono HG.out (fun j hj => HF.out.ups h j (by omega)) _ _ ?_
        rw [← hz1, ← hz2]
        unfold lim
        repeat' split
        all_goals omega
      have HV1 : Aside0 (curve_At.f 300 l z1 = some v1) := ⟨by rw [HA.out, hv1]⟩
      have HV2 : Aside0 (curve_At.f 300 l z2 = some v2) := ⟨by rw [HA.out, hv2]⟩
      rw [← hv1] at hb1
      rw [← hv2] at hb2
      obtain ⟨g1, g2⟩ := hb1
      obtain ⟨g3, g4⟩ := hb2
      clear hin hv1 hv2
      go_wp2_with fail
      refine (curve_At.calls 300 _ _ l _ v1 _ (Kd.C_below hR.out HB.out) hc HV1.out).mono ?_
      rintro e w1 ⟨rfl, hb1⟩
      go_wp2_with fail
      refine (curve_At.calls 300 _ _ l _ v2 _ (Kd.C_below hR.out (step HB.out hb1)) hc HV2.out).mono ?_
      rintro e w2 ⟨rfl, hb2⟩
      have HB2 : Aside0 (Below w.heap.size w w2) := ⟨step (step HB.out hb1) hb2⟩
      clear hb1 hb2 hz1 hz2
      cases up with
      | false =>
        clear hup
        go_wp2_with fail
        refine (imageeditorlaw07_example.calls 300 true _ (example_f 300 (by omega))).mono ?_
        rintro e w3 ⟨rfl, hb3⟩
        go_wp2
        go_ret
        exact ⟨rfl, step HB2.out hb3⟩
      | true =>
        have hle := hup rfl
        clear hup
        go_wp2_with fail
        refine (imageeditorlaw07_example.calls 300 true _ (example_f 300 (by omega))).mono ?_
        rintro e w3 ⟨rfl, hb3⟩
        go_wp2
        go_ret
        exact ⟨rfl, step HB2.out hb3⟩

theorem bounds_else (A0 : Option Addr) (c0 : Nat) (l : List S42) (x y : Int) (w : World) (hr : Kd.C k42 w A0 l.length l) (hc : l.length ≤ c0) (hG : ¬ GoodCurve (X l) (Y l) l.length) :
    Calls Try.prog 8 #[.slice A0 l.length c0, .int .i64 x, .int .i64 y] w fun e w' => e = .returned (.bool true) ∧ Below w.heap.size w w' := by
  have hR := Lib.hid hr
  obtain ⟨t, ht⟩ : ∃ t, t = chk (X l) (Y l) l.length := ⟨_, rfl⟩
  have HC : Aside0 (imageeditorref07_Check.f 300 l = some t) := ⟨by rw [refcheck_f 300 l (by omega), ht]⟩
  have hne : (t == 0) = false := by
    rw [beq_eq_false_iff_ne, ht]
    exact fun h => hG ((chk_ok _ _ _).1 h)
  have hne2 : (t != 0) = true := by
    rw [bne, hne]
    rfl
  clear ht hG hr
  go_enter Try.func8, Try.ntmps8
  go_wp2_with fail
  refine (imageeditorref07_Check.calls 300 _ _ l t _ hR.out hc HC.out).mono ?_
  rintro e w' ⟨rfl, ⟨nd, rfl⟩⟩
  go_wp2_with fail
  refine (imageeditorlaw07_example.calls 300 true _ (example_f 300 (by omega))).mono ?_
  rintro e w3 ⟨rfl, hb3⟩
  go_wp2
  go_ret
  exact ⟨rfl, step (by repeat (first | exact Below.refl _ _ | apply pw_below_drewN | apply below_drew1)) hb3⟩

theorem bounds_calls (A0 : Option Addr) (c0 : Nat) (l : List S42) (x y : Int) (w : World) (hr : Kd.C k42 w A0 l.length l) (hc : l.length ≤ c0) :
    Calls Try.prog 8 #[.slice A0 l.length c0, .int .i64 x, .int .i64 y] w fun e w' => e = .returned (.bool true) ∧ Below w.heap.size w w' := by
  by_cases h : GoodCurve (X l) (Y l) l.length
  · exact bounds_good A0 c0 l x y w hr hc h
  · exact bounds_else A0 c0 l x y w hr hc h

end Go.Proofs.Ytmgpmpiondciiaa.Pure
