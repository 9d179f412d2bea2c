/- curve.Check and curve.Rising against the reference's, as plain functions of lists. No condition. -/
import Derived.Test.YtmgpmpiondciiaaPCurveChecksx5
import Derived.Test.YtmgpmpiondciiaaMath
namespace Go.Proofs.Ytmgpmpiondciiaa.Pure
open Go.RowKit Go.Proofs.Ytmgpmpiondciiaa.PCurveChecks Go.Proofs.YtmgpmpiondciiaaW.PrintWords Go.Proofs.YtmgpmpiondciiaaW.PrintLast Go.Proofs.YtmgpmpiondciiaaW.PrintMore Go.Proofs.Ytmgpmpiondciiaa.Plain

/-- The knots' places and values, by their number. -/
def X (l : List S42) (i : Nat) : Int := (l.getD i z42).f0
def Y (l : List S42) (i : Nat) : Int := (l.getD i z42).f1
theorem rdX (l : List S42) (i : Nat) : (rd_T42 l (i : Int)).f0 = X l i := rfl
theorem rdY (l : List S42) (i : Nat) : (rd_T42 l (i : Int)).f1 = Y l i := rfl
theorem rdX0 (l : List S42) : (rd_T42 l 0).f0 = X l 0 := rfl
theorem rdY0 (l : List S42) : (rd_T42 l 0).f1 = Y l 0 := rfl
theorem wr (x : Int) (h0 : -9223372036854775808 ≤ x) (h1 : x ≤ 9223372036854775807) : wrap64 x = x := by unfold wrap64; omega
theorem wr_up (i : Nat) (h : i ≤ 100000) : wrap64 ((i : Int) + 1) = ((i + 1 : Nat) : Int) := by rw [wr _ (by omega) (by omega)]; omega
theorem wr_down (i : Nat) (h : i ≤ 100000) (h0 : 0 < i) : wrap64 ((i : Int) - 1) = ((i - 1 : Nat) : Int) := by rw [wr _ (by omega) (by omega)]; omega

/-! ### num.Clamp, num.Floor, num.Div -/
theorem clamp_unit (x : Int) : num_Clamp.f x 0 65535 = some (lim x) := by
  unfold num_Clamp.f mn mx lim
  congr 1
  repeat' split
  all_goals omega

/-- The floor's two parts: for a negative number by the parts of its opposite. -/
theorem floor_parts (a b : Int) : (0 ≤ a → Int.tdiv a b = a / b ∧ Int.tmod a b = a % b) ∧ (a < 0 → Int.tdiv a b = -((-a) / b) ∧ Int.tmod a b = -((-a) % b)) := by
  constructor
  · intro h
    exact ⟨Int.tdiv_eq_ediv_of_nonneg h, Int.tmod_eq_emod_of_nonneg h⟩
  · intro h
    have h1 : a = -(-a) := by omega
    constructor
    · rw [h1, Int.neg_tdiv, Int.tdiv_eq_ediv_of_nonneg (by omega)]
      simp
    · rw [h1, Int.neg_tmod, Int.tmod_eq_emod_of_nonneg (by omega)]
      simp

/-- What both Floors come to: a number f with b f at most a, and b (f + 1) more. -/
theorem floor_end (a b : Int) (hb : 0 < b) (ha : -4611686018427387904 ≤ a) (ha2 : a ≤ 4611686018427387904) :
    (Int.tmod a b = 0 → b * (wrap64 (Int.tdiv a b)) ≤ a ∧ a < b * (wrap64 (Int.tdiv a b)) + b ∧ -4611686018427387904 ≤ wrap64 (Int.tdiv a b) ∧ wrap64 (Int.tdiv a b) ≤ 4611686018427387904) ∧
    (Int.tmod a b ≠ 0 → a < 0 → Int.tmod a b < 0 ∧ b * (wrap64 (wrap64 (Int.tdiv a b) - 1)) ≤ a ∧ a < b * (wrap64 (wrap64 (Int.tdiv a b) - 1)) + b ∧ -4611686018427387904 ≤ wrap64 (wrap64 (Int.tdiv a b) - 1) ∧ wrap64 (wrap64 (Int.tdiv a b) - 1) ≤ 4611686018427387904) ∧
    (Int.tmod a b ≠ 0 → 0 ≤ a → 0 ≤ Int.tmod a b ∧ b * (wrap64 (Int.tdiv a b)) ≤ a ∧ a < b * (wrap64 (Int.tdiv a b)) + b ∧ -4611686018427387904 ≤ wrap64 (Int.tdiv a b) ∧ wrap64 (Int.tdiv a b) ≤ 4611686018427387904) := by
  obtain ⟨hp, hn⟩ := floor_parts a b
  rcases (by omega : 0 ≤ a ∨ a < 0) with h | h
  · obtain ⟨e1, e2⟩ := hp h
    have h1 := Int.mul_ediv_add_emod a b
    have h2 := Int.emod_nonneg a (show b ≠ 0 by omega)
    have h3 := Int.emod_lt_of_pos a hb
    have h4 : a / b ≤ a := Int.ediv_le_self b h
    have h5 : 0 ≤ a / b := Int.ediv_nonneg h (by omega)
    rw [e1, e2, wr (a / b) (by omega) (by omega)]
    exact ⟨fun _ => by omega, fun _ _ => by omega, fun _ _ => by omega⟩
  · obtain ⟨e1, e2⟩ := hn h
    have h1 := Int.mul_ediv_add_emod (-a) b
    have h2 := Int.emod_nonneg (-a) (show b ≠ 0 by omega)
    have h3 := Int.emod_lt_of_pos (-a) hb
    have h4 : (-a) / b ≤ (-a) := Int.ediv_le_self b (by omega)
    have h5 : 0 ≤ (-a) / b := Int.ediv_nonneg (by omega) (by omega)
    rw [e1, e2, wr (-((-a) / b)) (by omega) (by omega)]
    have h6 : b * (-((-a) / b)) = -(b * ((-a) / b)) := Int.mul_neg _ _
    have h7 : b * (-((-a) / b) - 1) = -(b * ((-a) / b)) - b := by rw [Int.mul_sub, h6, Int.mul_one]
    refine ⟨fun _ => by omega, fun hm _ => ?_, fun _ _ => by omega⟩
    have h8 : -4611686018427387904 ≤ -((-a) / b) - 1 := by
      rcases (by omega : b = 1 ∨ 2 ≤ b) with h9 | h9
      · subst h9; simp at hm
      · have : 2 * ((-a) / b) ≤ b * ((-a) / b) := Int.mul_le_mul_of_nonneg_right h9 h5
        omega
    rw [wr (-((-a) / b) - 1) (by omega) (by omega)]
    omega

theorem floor_f (a b : Int) (hb : 0 < b) (ha : -4611686018427387904 ≤ a) (ha2 : a ≤ 4611686018427387904) : ∃ f, num_Floor.f a b = some f ∧ b * f ≤ a ∧ a < b * f + b ∧ -4611686018427387904 ≤ f ∧ f ≤ 4611686018427387904 := by
  obtain ⟨h1, h2, h3⟩ := floor_end a b hb ha ha2
  unfold num_Floor.f
  rw [if_neg (by omega), if_neg (by omega)]
  by_cases hm : Int.tmod a b = 0
  · rw [if_pos hm]
    exact ⟨_, rfl, h1 hm⟩
  · rw [if_neg hm]
    by_cases hs : a < 0
    · rw [if_pos (by simp [hs]; omega)]
      exact ⟨_, rfl, (h2 hm hs).2⟩
    · rw [if_neg (by simp [hs]; omega)]
      exact ⟨_, rfl, (h3 hm (by omega)).2⟩

theorem div_f (k : Nat) (a b : Int) (hk : 1 ≤ k) (hb : 0 < b) (hb2 : b ≤ 4611686018427387904) (ha : -4611686018427387904 ≤ a) (ha2 : a ≤ 4611686018427387904) : num_Div.f k a b = some (rdiv a b) := by
  obtain ⟨f, hf, h1, h2, h3, h4⟩ := floor_f a b hb ha ha2
  obtain ⟨k, rfl⟩ : ∃ m, k = m + 1 := ⟨k - 1, by omega⟩
  unfold num_Div.f
  rw [hf]
  simp only [Option.bind_some]
  rw [if_neg (by omega), show (b == -1) = false by simp; omega]
  simp only [num_Div.j0]
  rw [if_neg (by simp), if_pos (by omega)]
  have e1 : f * b = b * f := Int.mul_comm f b
  rw [e1, wr (b * f) (by omega) (by omega), wr (a - b * f) (by omega) (by omega), wr (b - (a - b * f)) (by omega) (by omega)]
  rw [rdiv_floor a b f hb h1 h2]
  by_cases hc : b - (a - b * f) ≤ a - b * f
  · rw [if_pos hc, if_pos hc, wr (f + 1) (by omega) (by omega)]
  · rw [if_neg hc, if_neg hc, if_neg (by omega)]

/-! ### curve.Check -/
theorem check_loop (l : List S42) : ∀ (d i k : Nat), i + d = l.length → l.length ≤ 16 → 2 * d < k → curve_Check.l0 k l l (l.length : Int) (i : Int) = some (chkI (X l) (Y l) d i) := by
  intro d
  induction d with
  | zero =>
    intro i k hd hn hk
    obtain ⟨k, rfl⟩ : ∃ m, k = m + 1 := ⟨k - 1, by omega⟩
    simp only [curve_Check.l0]
    rw [if_neg (by omega)]
    rfl
  | succ d ih =>
    intro i k hd hn hk
    obtain ⟨k, rfl⟩ : ∃ m, k = m + 2 := ⟨k - 2, by omega⟩
    have hj : ∀ b : Bool, (b = true ↔ (X l i < 0 ∨ Y l i < 0 ∨ 65535 < X l i ∨ 65535 < Y l i)) → curve_Check.j1 (k + 1) l (i : Int) l (l.length : Int) (i : Int) b (X l i) (Y l i) = some (chkI (X l) (Y l) (d + 1) i) := by
      intro b hb
      simp only [curve_Check.j1]
      unfold chkI
      by_cases h1 : b = true
      · rw [if_pos h1, if_pos (hb.1 h1)]
      · rw [if_neg h1, if_neg (fun h => h1 (hb.2 h))]
        by_cases h2 : 0 < i
        · rw [if_pos (by omega), wr_down i (by omega) h2, if_pos (by omega), if_pos (by omega), rdX]
          by_cases h3 : X l i ≤ X l (i - 1)
          · rw [if_pos h3, if_pos ⟨h2, h3⟩]
          · rw [if_neg h3, if_neg (fun h => h3 h.2), wr_up i (by omega)]
            exact ih (i + 1) k (by omega) hn (by omega)
        · rw [if_neg (by omega), if_neg (fun h => h2 h.1), wr_up i (by omega)]
          exact ih (i + 1) k (by omega) hn (by omega)
    simp only [curve_Check.l0]
    rw [if_pos (by omega), if_pos (by omega), if_pos (by omega), rdX, rdY]
    by_cases h1 : mn (X l i) (Y l i) < 0
    · rw [if_pos h1]
      refine hj true ⟨fun _ => ?_, fun _ => rfl⟩
      unfold mn at h1
      split at h1 <;> omega
    · rw [if_neg h1]
      refine hj _ ?_
      rw [decide_eq_true_eq]
      unfold mn at h1
      unfold mx
      split at h1 <;> split <;> omega

theorem check_f (k : Nat) (l : List S42) (hk : 40 ≤ k) : curve_Check.f k l = some (chk (X l) (Y l) l.length) := by
  unfold curve_Check.f chk
  by_cases h1 : l.length < 2
  · rw [if_pos (by omega), if_pos h1]
  · rw [if_neg (by omega), if_neg h1]
    by_cases h2 : 16 < l.length
    · rw [if_pos (by omega), if_pos h2]
    · rw [if_neg (by omega), if_neg h2]
      exact check_loop l l.length 0 k (by omega) (by omega) (by omega)

/-! ### curve.Rising -/
structure Rise (l : List S42) : Prop where
  good : GoodCurve (X l) (Y l) l.length
  fx : X l 0 = 0
  fy : Y l 0 = 0
  lx : X l (l.length - 1) = 65535
  ly : Y l (l.length - 1) = 65535
  up : ∀ i, i + 1 < l.length → Y l i < Y l (i + 1)

theorem rising_loop (l : List S42) : ∀ (d i k : Nat), i + d = l.length → 0 < i → l.length ≤ 16 → d < k → ((∀ j, i ≤ j → j < l.length → Y l (j - 1) < Y l j) → curve_Rising.l0 k l (i : Int) = some true) ∧ (¬ (∀ j, i ≤ j → j < l.length → Y l (j - 1) < Y l j) → curve_Rising.l0 k l (i : Int) = some false) := by
  intro d
  induction d with
  | zero =>
    intro i k hd hi hn hk
    obtain ⟨k, rfl⟩ : ∃ m, k = m + 1 := ⟨k - 1, by omega⟩
    simp only [curve_Rising.l0]
    rw [if_neg (by omega)]
    exact ⟨fun _ => rfl, fun h => absurd (fun j h1 h2 => by omega) h⟩
  | succ d ih =>
    intro i k hd hi hn hk
    obtain ⟨k, rfl⟩ : ∃ m, k = m + 1 := ⟨k - 1, by omega⟩
    simp only [curve_Rising.l0]
    rw [if_pos (by omega), if_pos (by omega), wr_down i (by omega) hi, if_pos (by omega), if_pos (by omega), rdY, rdY, wr_up i (by omega)]
    obtain ⟨i1, i2⟩ := ih (i + 1) k (by omega) (by omega) hn (by omega)
    by_cases h1 : Y l i ≤ Y l (i - 1)
    · rw [if_pos h1]
      exact ⟨fun h => by have := h i (Nat.le_refl _) (by omega); omega, fun _ => rfl⟩
    · rw [if_neg h1]
      constructor
      · intro h
        exact i1 (fun j h2 h3 => h j (by omega) h3)
      · intro h
        refine i2 (fun h2 => h (fun j h3 h4 => ?_))
        rcases Nat.eq_or_lt_of_le h3 with rfl | h5
        · omega
        · exact h2 j h5 h4

theorem neq_flag (a b c d : Int) : (!(a == b) || !(c == d)) = true ↔ ¬ (a = b ∧ c = d) := by
  by_cases h1 : a = b <;> by_cases h2 : c = d <;> simp [h1, h2]

theorem rising_f (k : Nat) (l : List S42) (hk : 60 ≤ k) : (Rise l → curve_Rising.f k l = some true) ∧ (¬ Rise l → curve_Rising.f k l = some false) := by
  unfold curve_Rising.f
  rw [check_f k l (by omega)]
  simp only [Option.bind_some]
  obtain ⟨k, rfl⟩ : ∃ m, k = m + 1 := ⟨k - 1, by omega⟩
  by_cases hg : chk (X l) (Y l) l.length = 0
  · have G := (chk_ok _ _ _).1 hg
    have g2 := G.two
    have g16 := G.most
    rw [if_pos hg, if_pos (by omega), wr_down l.length (by omega) (by omega), rdX, rdY, rdX0, rdY0]
    by_cases h1 : X l 0 = 0 ∧ Y l 0 = 0
    · rw [if_neg (by rw [neq_flag]; simp [h1]), if_pos (by omega), if_pos (by omega)]
      simp only [curve_Rising.j0]
      by_cases h2 : X l (l.length - 1) = 65535 ∧ Y l (l.length - 1) = 65535
      · rw [if_neg (by rw [neq_flag]; simp [h2])]
        obtain ⟨i1, i2⟩ := rising_loop l (l.length - 1) 1 k (by omega) (by omega) (by omega) (by omega)
        constructor
        · intro h
          refine i1 (fun j h3 h4 => ?_)
          have := h.up (j - 1) (by omega)
          rw [show j - 1 + 1 = j by omega] at this
          exact this
        · intro h
          refine i2 (fun h3 => h ⟨G, h1.1, h1.2, h2.1, h2.2, fun i hi => ?_⟩)
          have := h3 (i + 1) (by omega) hi
          simpa using this
      · rw [if_pos (by rw [neq_flag]; exact h2)]
        exact ⟨fun h => absurd ⟨h.lx, h.ly⟩ h2, fun _ => rfl⟩
    · rw [if_pos (by rw [neq_flag]; exact h1)]
      simp only [curve_Rising.j0]
      exact ⟨fun h => absurd ⟨h.fx, h.fy⟩ h1, fun _ => rfl⟩
  · rw [if_neg hg]
    simp only [curve_Rising.j0]
    exact ⟨fun h => absurd ((chk_ok _ _ _).2 h.good) hg, fun _ => rfl⟩

/-! ### the chapter's examples -/
theorem example_at : imageeditorlaw07_example.f 100 = some true := by decide +kernel
theorem example_f (k : Nat) (hk : 100 ≤ k) : imageeditorlaw07_example.f k = some true := at_rounds (fun k => imageeditorlaw07_example.mono k) hk example_at

/-! ### the reference's Check -/
theorem refunit (x : Int) : imageeditorref07_unit.f x = some (decide (0 ≤ x ∧ x ≤ 65535)) := by
  unfold imageeditorref07_unit.f
  by_cases h : x ≥ 0
  · rw [if_pos h]; simp [h]
  · rw [if_neg h]; simp; omega

theorem refcheck_loop (l : List S42) : ∀ (d i k : Nat), i + d = l.length → l.length ≤ 16 → 2 * d < k → imageeditorref07_Check.l0 k l (i : Int) = some (chkI (X l) (Y l) d i) := by
  intro d
  induction d with
  | zero =>
    intro i k hd hn hk
    obtain ⟨k, rfl⟩ : ∃ m, k = m + 1 := ⟨k - 1, by omega⟩
    simp only [imageeditorref07_Check.l0]
    rw [if_neg (by omega)]
    rfl
  | succ d ih =>
    intro i k hd hn hk
    obtain ⟨k, rfl⟩ : ∃ m, k = m + 2 := ⟨k - 2, by omega⟩
    have hj : ∀ b : Bool, (b = true ↔ (X l i < 0 ∨ Y l i < 0 ∨ 65535 < X l i ∨ 65535 < Y l i)) → imageeditorref07_Check.j1 (k + 1) l (i : Int) b = some (chkI (X l) (Y l) (d + 1) i) := by
      intro b hb
      simp only [imageeditorref07_Check.j1]
      unfold chkI
      by_cases h1 : b = true
      · rw [if_pos h1, if_pos (hb.1 h1)]
      · rw [if_neg h1, if_neg (fun h => h1 (hb.2 h))]
        by_cases h2 : 0 < i
        · rw [if_pos (by omega), wr_down i (by omega) h2, if_pos (by omega), if_pos (by omega), if_pos (by omega), if_pos (by omega), rdX, rdX]
          by_cases h3 : X l i ≤ X l (i - 1)
          · rw [if_pos h3, if_pos ⟨h2, h3⟩]
          · rw [if_neg h3, if_neg (fun h => h3 h.2), wr_up i (by omega)]
            exact ih (i + 1) k (by omega) hn (by omega)
        · rw [if_neg (by omega), if_neg (fun h => h2 h.1), wr_up i (by omega)]
          exact ih (i + 1) k (by omega) hn (by omega)
    simp only [imageeditorref07_Check.l0]
    rw [if_pos (by omega), if_pos (by omega), rdX, rdY, refunit, refunit]
    simp only [Option.bind_some]
    by_cases h1 : 0 ≤ X l i ∧ X l i ≤ 65535
    · rw [if_pos (by simpa using h1)]
      refine hj _ ?_
      by_cases h2 : 0 ≤ Y l i ∧ Y l i ≤ 65535
      · simp only [h2]; simp; omega
      · simp only [h2]; simp; omega
    · rw [if_neg (by simpa using h1)]
      exact hj true ⟨fun _ => by omega, fun _ => rfl⟩

theorem refcheck_f (k : Nat) (l : List S42) (hk : 40 ≤ k) : imageeditorref07_Check.f k l = some (chk (X l) (Y l) l.length) := by
  unfold imageeditorref07_Check.f chk
  by_cases h1 : l.length < 2
  · rw [if_pos (by omega), if_pos h1]
  · rw [if_neg (by omega), if_neg h1]
    by_cases h2 : 16 < l.length
    · rw [if_pos (by omega), if_pos h2]
    · rw [if_neg (by omega), if_neg h2]
      exact refcheck_loop l l.length 0 k (by omega) (by omega) (by omega)

/-! ### the reference's Rising -/
theorem refrising_loop (l : List S42) : ∀ (d i k : Nat), i + d = l.length → 0 < i → l.length ≤ 16 → d < k → ((∀ j, i ≤ j → j < l.length → Y l (j - 1) < Y l j) → imageeditorref07_Rising.l0 k l (i : Int) = some true) ∧ (¬ (∀ j, i ≤ j → j < l.length → Y l (j - 1) < Y l j) → imageeditorref07_Rising.l0 k l (i : Int) = some false) := by
  intro d
  induction d with
  | zero =>
    intro i k hd hi hn hk
    obtain ⟨k, rfl⟩ : ∃ m, k = m + 1 := ⟨k - 1, by omega⟩
    simp only [imageeditorref07_Rising.l0]
    rw [if_neg (by omega)]
    exact ⟨fun _ => rfl, fun h => absurd (fun j h1 h2 => by omega) h⟩
  | succ d ih =>
    intro i k hd hi hn hk
    obtain ⟨k, rfl⟩ : ∃ m, k = m + 1 := ⟨k - 1, by omega⟩
    simp only [imageeditorref07_Rising.l0]
    rw [if_pos (by omega), if_pos (by omega), wr_down i (by omega) hi, if_pos (by omega), if_pos (by omega), rdY, rdY, wr_up i (by omega)]
    obtain ⟨i1, i2⟩ := ih (i + 1) k (by omega) (by omega) hn (by omega)
    by_cases h1 : Y l i ≤ Y l (i - 1)
    · rw [if_pos h1]
      exact ⟨fun h => by have := h i (Nat.le_refl _) (by omega); omega, fun _ => rfl⟩
    · rw [if_neg h1]
      constructor
      · intro h
        exact i1 (fun j h2 h3 => h j (by omega) h3)
      · intro h
        refine i2 (fun h2 => h (fun j h3 h4 => ?_))
        rcases Nat.eq_or_lt_of_le h3 with rfl | h5
        · omega
        · exact h2 j h5 h4

theorem refrising_f (k : Nat) (l : List S42) (hk : 60 ≤ k) : (Rise l → imageeditorref07_Rising.f k l = some true) ∧ (¬ Rise l → imageeditorref07_Rising.f k l = some false) := by
  unfold imageeditorref07_Rising.f
  rw [refcheck_f k l (by omega)]
  simp only [Option.bind_some]
  obtain ⟨k, rfl⟩ : ∃ m, k = m + 1 := ⟨k - 1, by omega⟩
  by_cases hg : chk (X l) (Y l) l.length = 0
  · have G := (chk_ok _ _ _).1 hg
    have g2 := G.two
    have g16 := G.most
    rw [if_pos hg, if_pos (by omega), wr_down l.length (by omega) (by omega), rdX, rdY, rdX0, rdY0]
    by_cases h1 : X l 0 = 0 ∧ Y l 0 = 0
    · rw [if_neg (by rw [neq_flag]; simp [h1]), if_pos (by omega), if_pos (by omega)]
      simp only [imageeditorref07_Rising.j0]
      by_cases h2 : X l (l.length - 1) = 65535 ∧ Y l (l.length - 1) = 65535
      · rw [if_neg (by rw [neq_flag]; simp [h2])]
        obtain ⟨i1, i2⟩ := refrising_loop l (l.length - 1) 1 k (by omega) (by omega) (by omega) (by omega)
        constructor
        · intro h
          refine i1 (fun j h3 h4 => ?_)
          have := h.up (j - 1) (by omega)
          rw [show j - 1 + 1 = j by omega] at this
          exact this
        · intro h
          refine i2 (fun h3 => h ⟨G, h1.1, h1.2, h2.1, h2.2, fun i hi => ?_⟩)
          have := h3 (i + 1) (by omega) hi
          simpa using this
      · rw [if_pos (by rw [neq_flag]; exact h2)]
        exact ⟨fun h => absurd ⟨h.lx, h.ly⟩ h2, fun _ => rfl⟩
    · rw [if_pos (by rw [neq_flag]; exact h1)]
      simp only [imageeditorref07_Rising.j0]
      exact ⟨fun h => absurd ⟨h.fx, h.fy⟩ h1, fun _ => rfl⟩
  · rw [if_neg hg]
    simp only [imageeditorref07_Rising.j0]
    exact ⟨fun h => absurd ((chk_ok _ _ _).2 h.good) hg, fun _ => rfl⟩


theorem CurveChecks (l : List S42) (_ : ∀ p ∈ l, (Lit.int .i64 p.f0).wf = true ∧ (Lit.int .i64 p.f1).wf = true) : ∃ k, imageeditorlaw07_CurveChecks.f k l = some true := by
  refine ⟨300, ?_⟩
  unfold imageeditorlaw07_CurveChecks.f
  rw [check_f 300 l (by omega), refcheck_f 300 l (by omega)]
  simp only [Option.bind_some, if_true]
  obtain ⟨a1, a2⟩ := rising_f 300 l (by omega)
  obtain ⟨b1, b2⟩ := refrising_f 300 l (by omega)
  by_cases h : Rise l
  · rw [a1 h, b1 h, example_f 300 (by omega)]; rfl
  · rw [a2 h, b2 h, example_f 300 (by omega)]; rfl

end Go.Proofs.Ytmgpmpiondciiaa.Pure
