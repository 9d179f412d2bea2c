/- curve.Back against the reference's, as plain functions of lists and numbers. No condition. -/
import Derived.Test.YtmgpmpiondciiaaPCurveBacksx6
import Derived.Test.YtmgpmpiondciiaaMath
namespace Go.Proofs.Ytmgpmpiondciiaa.Pure
open Go.RowKit Go.Proofs.Ytmgpmpiondciiaa.PCurveBacks Go.Proofs.YtmgpmpiondciiaaW.PrintWords Go.Proofs.YtmgpmpiondciiaaW.PrintLast Go.Proofs.YtmgpmpiondciiaaW.PrintMore Go.Proofs.Ytmgpmpiondciiaa.Plain

/-- The knots' places and values, by their number. -/
def X (l : List S42) (i : Nat) : Int := (l.getD i z42).f0
def Y (l : List S42) (i : Nat) : Int := (l.getD i z42).f1
theorem rdX (l : List S42) (i : Nat) : (rd_T42 l (i : Int)).f0 = X l i := rfl
theorem rdY (l : List S42) (i : Nat) : (rd_T42 l (i : Int)).f1 = Y l i := rfl
theorem rdX0 (l : List S42) : (rd_T42 l 0).f0 = X l 0 := rfl
theorem rdY0 (l : List S42) : (rd_T42 l 0).f1 = Y l 0 := rfl
theorem wr (x : Int) (h0 : -9223372036854775808 ≤ x) (h1 : x ≤ 9223372036854775807) : wrap64 x = x := by unfold wrap64; omega
theorem wr_up (i : Nat) (h : i ≤ 100000) : wrap64 ((i : Int) + 1) = ((i + 1 : Nat) : Int) := by rw [wr _ (by omega) (by omega)]; omega
theorem wr_down (i : Nat) (h : i ≤ 100000) (h0 : 0 < i) : wrap64 ((i : Int) - 1) = ((i - 1 : Nat) : Int) := by rw [wr _ (by omega) (by omega)]; omega

/-! ### num.Clamp, num.Floor, num.Div -/
theorem clamp_unit (x : Int) : num_Clamp.f x 0 65535 = some (lim x) := by
  unfold num_Clamp.f mn mx lim
  congr 1
  repeat' split
  all_goals omega

/-- The floor's two parts: for a negative number by the parts of its opposite. -/
theorem floor_parts (a b : Int) : (0 ≤ a → Int.tdiv a b = a / b ∧ Int.tmod a b = a % b) ∧ (a < 0 → Int.tdiv a b = -((-a) / b) ∧ Int.tmod a b = -((-a) % b)) := by
  constructor
  · intro h
    exact ⟨Int.tdiv_eq_ediv_of_nonneg h, Int.tmod_eq_emod_of_nonneg h⟩
  · intro h
    have h1 : a = -(-a) := by omega
    constructor
    · rw [h1, Int.neg_tdiv, Int.tdiv_eq_ediv_of_nonneg (by omega)]
      simp
    · rw [h1, Int.neg_tmod, Int.tmod_eq_emod_of_nonneg (by omega)]
      simp

/-- What both Floors come to: a number f with b f at most a, and b (f + 1) more. -/
theorem floor_end (a b : Int) (hb : 0 < b) (ha : -4611686018427387904 ≤ a) (ha2 : a ≤ 4611686018427387904) :
    (Int.tmod a b = 0 → b * (wrap64 (Int.tdiv a b)) ≤ a ∧ a < b * (wrap64 (Int.tdiv a b)) + b ∧ -4611686018427387904 ≤ wrap64 (Int.tdiv a b) ∧ wrap64 (Int.tdiv a b) ≤ 4611686018427387904) ∧
    (Int.tmod a b ≠ 0 → a < 0 → Int.tmod a b < 0 ∧ b * (wrap64 (wrap64 (Int.tdiv a b) - 1)) ≤ a ∧ a < b * (wrap64 (wrap64 (Int.tdiv a b) - 1)) + b ∧ -4611686018427387904 ≤ wrap64 (wrap64 (Int.tdiv a b) - 1) ∧ wrap64 (wrap64 (Int.tdiv a b) - 1) ≤ 4611686018427387904) ∧
    (Int.tmod a b ≠ 0 → 0 ≤ a → 0 ≤ Int.tmod a b ∧ b * (wrap64 (Int.tdiv a b)) ≤ a ∧ a < b * (wrap64 (Int.tdiv a b)) + b ∧ -4611686018427387904 ≤ wrap64 (Int.tdiv a b) ∧ wrap64 (Int.tdiv a b) ≤ 4611686018427387904) := by
  obtain ⟨hp, hn⟩ := floor_parts a b
  rcases (by omega : 0 ≤ a ∨ a < 0) with h | h
  · obtain ⟨e1, e2⟩ := hp h
    have h1 := Int.mul_ediv_add_emod a b
    have h2 := Int.emod_nonneg a (show b ≠ 0 by omega)
    have h3 := Int.emod_lt_of_pos a hb
    have h4 : a / b ≤ a := Int.ediv_le_self b h
    have h5 : 0 ≤ a / b := Int.ediv_nonneg h (by omega)
    rw [e1, e2, wr (a / b) (by omega) (by omega)]
    exact ⟨fun _ => by omega, fun _ _ => by omega, fun _ _ => by omega⟩
  · obtain ⟨e1, e2⟩ := hn h
    have h1 := Int.mul_ediv_add_emod (-a) b
    have h2 := Int.emod_nonneg (-a) (show b ≠ 0 by omega)
    have h3 := Int.emod_lt_of_pos (-a) hb
    have h4 : (-a) / b ≤ (-a) := Int.ediv_le_self b (by omega)
    have h5 : 0 ≤ (-a) / b := Int.ediv_nonneg (by omega) (by omega)
    rw [e1, e2, wr (-((-a) / b)) (by omega) (by omega)]
    have h6 : b * (-((-a) / b)) = -(b * ((-a) / b)) := Int.mul_neg _ _
    have h7 : b * (-((-a) / b) - 1) = -(b * ((-a) / b)) - b := by rw [Int.mul_sub, h6, Int.mul_one]
    refine ⟨fun _ => by omega, fun hm _ => ?_, fun _ _ => by omega⟩
    have h8 : -4611686018427387904 ≤ -((-a) / b) - 1 := by
      rcases (by omega : b = 1 ∨ 2 ≤ b) with h9 | h9
      · subst h9; simp at hm
      · have : 2 * ((-a) / b) ≤ b * ((-a) / b) := Int.mul_le_mul_of_nonneg_right h9 h5
        omega
    rw [wr (-((-a) / b) - 1) (by omega) (by omega)]
    omega

theorem floor_f (a b : Int) (hb : 0 < b) (ha : -4611686018427387904 ≤ a) (ha2 : a ≤ 4611686018427387904) : ∃ f, num_Floor.f a b = some f ∧ b * f ≤ a ∧ a < b * f + b ∧ -4611686018427387904 ≤ f ∧ f ≤ 4611686018427387904 := by
  obtain ⟨h1, h2, h3⟩ := floor_end a b hb ha ha2
  unfold num_Floor.f
  rw [if_neg (by omega), if_neg (by omega)]
  by_cases hm : Int.tmod a b = 0
  · rw [if_pos hm]
    exact ⟨_, rfl, h1 hm⟩
  · rw [if_neg hm]
    by_cases hs : a < 0
    · rw [if_pos (by simp [hs]; omega)]
      exact ⟨_, rfl, (h2 hm hs).2⟩
    · rw [if_neg (by simp [hs]; omega)]
      exact ⟨_, rfl, (h3 hm (by omega)).2⟩

theorem div_f (k : Nat) (a b : Int) (hk : 1 ≤ k) (hb : 0 < b) (hb2 : b ≤ 4611686018427387904) (ha : -4611686018427387904 ≤ a) (ha2 : a ≤ 4611686018427387904) : num_Div.f k a b = some (rdiv a b) := by
  obtain ⟨f, hf, h1, h2, h3, h4⟩ := floor_f a b hb ha ha2
  obtain ⟨k, rfl⟩ : ∃ m, k = m + 1 := ⟨k - 1, by omega⟩
  unfold num_Div.f
  rw [hf]
  simp only [Option.bind_some]
  rw [if_neg (by omega), show (b == -1) = false by simp; omega]
  simp only [num_Div.j0]
  rw [if_neg (by simp), if_pos (by omega)]
  have e1 : f * b = b * f := Int.mul_comm f b
  rw [e1, wr (b * f) (by omega) (by omega), wr (a - b * f) (by omega) (by omega), wr (b - (a - b * f)) (by omega) (by omega)]
  rw [rdiv_floor a b f hb h1 h2]
  by_cases hc : b - (a - b * f) ≤ a - b * f
  · rw [if_pos hc, if_pos hc, wr (f + 1) (by omega) (by omega)]
  · rw [if_neg hc, if_neg hc, if_neg (by omega)]

/-! ### curve.Check -/
theorem check_loop (l : List S42) : ∀ (d i k : Nat), i + d = l.length → l.length ≤ 16 → 2 * d < k → curve_Check.l0 k l l (l.length : Int) (i : Int) = some (chkI (X l) (Y l) d i) := by
  intro d
  induction d with
  | zero =>
    intro i k hd hn hk
    obtain ⟨k, rfl⟩ : ∃ m, k = m + 1 := ⟨k - 1, by omega⟩
    simp only [curve_Check.l0]
    rw [if_neg (by omega)]
    rfl
  | succ d ih =>
    intro i k hd hn hk
    obtain ⟨k, rfl⟩ : ∃ m, k = m + 2 := ⟨k - 2, by omega⟩
    have hj : ∀ b : Bool, (b = true ↔ (X l i < 0 ∨ Y l i < 0 ∨ 65535 < X l i ∨ 65535 < Y l i)) → curve_Check.j1 (k + 1) l (i : Int) l (l.length : Int) (i : Int) b (X l i) (Y l i) = some (chkI (X l) (Y l) (d + 1) i) := by
      intro b hb
      simp only [curve_Check.j1]
      unfold chkI
      by_cases h1 : b = true
      · rw [if_pos h1, if_pos (hb.1 h1)]
      · rw [if_neg h1, if_neg (fun h => h1 (hb.2 h))]
        by_cases h2 : 0 < i
        · rw [if_pos (by omega), wr_down i (by omega) h2, if_pos (by omega), if_pos (by omega), rdX]
          by_cases h3 : X l i ≤ X l (i - 1)
          · rw [if_pos h3, if_pos ⟨h2, h3⟩]
          · rw [if_neg h3, if_neg (fun h => h3 h.2), wr_up i (by omega)]
            exact ih (i + 1) k (by omega) hn (by omega)
        · rw [if_neg (by omega), if_neg (fun h => h2 h.1), wr_up i (by omega)]
          exact ih (i + 1) k (by omega) hn (by omega)
    simp only [curve_Check.l0]
    rw [if_pos (by omega), if_pos (by omega), if_pos (by omega), rdX, rdY]
    by_cases h1 : mn (X l i) (Y l i) < 0
    · rw [if_pos h1]
      refine hj true ⟨fun _ => ?_, fun _ => rfl⟩
      unfold mn at h1
      split at h1 <;> omega
    · rw [if_neg h1]
      refine hj _ ?_
      rw [decide_eq_true_eq]
      unfold mn at h1
      unfold mx
      split at h1 <;> split <;> omega

theorem check_f (k : Nat) (l : List S42) (hk : 40 ≤ k) : curve_Check.f k l = some (chk (X l) (Y l) l.length) := by
  unfold curve_Check.f chk
  by_cases h1 : l.length < 2
  · rw [if_pos (by omega), if_pos h1]
  · rw [if_neg (by omega), if_neg h1]
    by_cases h2 : 16 < l.length
    · rw [if_pos (by omega), if_pos h2]
    · rw [if_neg (by omega), if_neg h2]
      exact check_loop l l.length 0 k (by omega) (by omega) (by omega)

/-! ### curve.Rising -/
structure Rise (l : List S42) : Prop where
  good : GoodCurve (X l) (Y l) l.length
  fx : X l 0 = 0
  fy : Y l 0 = 0
  lx : X l (l.length - 1) = 65535
  ly : Y l (l.length - 1) = 65535
  up : ∀ i, i + 1 < l.length → Y l i < Y l (i + 1)

theorem rising_loop (l : List S42) : ∀ (d i k : Nat), i + d = l.length → 0 < i → l.length ≤ 16 → d < k → ((∀ j, i ≤ j → j < l.length → Y l (j - 1) < Y l j) → curve_Rising.l0 k l (i : Int) = some true) ∧ (¬ (∀ j, i ≤ j → j < l.length → Y l (j - 1) < Y l j) → curve_Rising.l0 k l (i : Int) = some false) := by
  intro d
  induction d with
  | zero =>
    intro i k hd hi hn hk
    obtain ⟨k, rfl⟩ : ∃ m, k = m + 1 := ⟨k - 1, by omega⟩
    simp only [curve_Rising.l0]
    rw [if_neg (by omega)]
    exact ⟨fun _ => rfl, fun h => absurd (fun j h1 h2 => by omega) h⟩
  | succ d ih =>
    intro i k hd hi hn hk
    obtain ⟨k, rfl⟩ : ∃ m, k = m + 1 := ⟨k - 1, by omega⟩
    simp only [curve_Rising.l0]
    rw [if_pos (by omega), if_pos (by omega), wr_down i (by omega) hi, if_pos (by omega), if_pos (by omega), rdY, rdY, wr_up i (by omega)]
    obtain ⟨i1, i2⟩ := ih (i + 1) k (by omega) (by omega) hn (by omega)
    by_cases h1 : Y l i ≤ Y l (i - 1)
    · rw [if_pos h1]
      exact ⟨fun h => by have := h i (Nat.le_refl _) (by omega); omega, fun _ => rfl⟩
    · rw [if_neg h1]
      constructor
      · intro h
        exact i1 (fun j h2 h3 => h j (by omega) h3)
      · intro h
        refine i2 (fun h2 => h (fun j h3 h4 => ?_))
        rcases Nat.eq_or_lt_of_le h3 with rfl | h5
        · omega
        · exact h2 j h5 h4

theorem neq_flag (a b c d : Int) : (!(a == b) || !(c == d)) = true ↔ ¬ (a = b ∧ c = d) := by
  by_cases h1 : a = b <;> by_cases h2 : c = d <;> simp [h1, h2]

theorem rising_f (k : Nat) (l : List S42) (hk : 60 ≤ k) : (Rise l → curve_Rising.f k l = some true) ∧ (¬ Rise l → curve_Rising.f k l = some false) := by
  unfold curve_Rising.f
  rw [check_f k l (by omega)]
  simp only [Option.bind_some]
  obtain ⟨k, rfl⟩ : ∃ m, k = m + 1 := ⟨k - 1, by omega⟩
  by_cases hg : chk (X l) (Y l) l.length = 0
  · have G := (chk_ok _ _ _).1 hg
    have g2 := G.two
    have g16 := G.most
    rw [if_pos hg, if_pos (by omega), wr_down l.length (by omega) (by omega), rdX, rdY, rdX0, rdY0]
    by_cases h1 : X l 0 = 0 ∧ Y l 0 = 0
    · rw [if_neg (by rw [neq_flag]; simp [h1]), if_pos (by omega), if_pos (by omega)]
      simp only [curve_Rising.j0]
      by_cases h2 : X l (l.length - 1) = 65535 ∧ Y l (l.length - 1) = 65535
      · rw [if_neg (by rw [neq_flag]; simp [h2])]
        obtain ⟨i1, i2⟩ := rising_loop l (l.length - 1) 1 k (by omega) (by omega) (by omega) (by omega)
        constructor
        · intro h
          refine i1 (fun j h3 h4 => ?_)
          have := h.up (j - 1) (by omega)
          rw [show j - 1 + 1 = j by omega] at this
          exact this
        · intro h
          refine i2 (fun h3 => h ⟨G, h1.1, h1.2, h2.1, h2.2, fun i hi => ?_⟩)
          have := h3 (i + 1) (by omega) hi
          simpa using this
      · rw [if_pos (by rw [neq_flag]; exact h2)]
        exact ⟨fun h => absurd ⟨h.lx, h.ly⟩ h2, fun _ => rfl⟩
    · rw [if_pos (by rw [neq_flag]; exact h1)]
      simp only [curve_Rising.j0]
      exact ⟨fun h => absurd ⟨h.fx, h.fy⟩ h1, fun _ => rfl⟩
  · rw [if_neg hg]
    simp only [curve_Rising.j0]
    exact ⟨fun h => absurd ((chk_ok _ _ _).2 h.good) hg, fun _ => rfl⟩

/-! ### the chapter's examples -/
theorem example_at : imageeditorlaw07_example.f 100 = some true := by decide +kernel
theorem example_f (k : Nat) (hk : 100 ≤ k) : imageeditorlaw07_example.f k = some true := at_rounds (fun k => imageeditorlaw07_example.mono k) hk example_at

/-! ### curve.between, curve.At -/
theorem wr_add_pos (a b : Int) (h0 : -9223372036854775808 ≤ a + b) (h1 : a + b ≤ 9223372036854775807) : wrap64 (a + b) = a + b := wr _ h0 h1

/-- The products in a line stay small. -/
theorem line_small (dy dt : Int) (h0 : -65535 ≤ dy) (h1 : dy ≤ 65535) (h2 : 0 ≤ dt) (h3 : dt ≤ 65535) : -4294836225 ≤ dy * dt ∧ dy * dt ≤ 4294836225 := by
  have a : dy * dt ≤ 65535 * dt := Int.mul_le_mul_of_nonneg_right h1 h2
  have b : -65535 * dt ≤ dy * dt := Int.mul_le_mul_of_nonneg_right h0 h2
  omega

theorem line_range {l : List S42} (G : GoodCurve (X l) (Y l) l.length) (i : Nat) (x : Int) (h0 : 0 < i) (h1 : i < l.length) (h2 : X l (i - 1) ≤ x) (h3 : x < X l i) : 0 ≤ line (X l) (Y l) i x ∧ line (X l) (Y l) i x ≤ 65535 := by
  have h4 := G.lt i (i - 1) (by omega) h1
  exact line_between (Y l (i - 1)) (Y l i) (X l i - X l (i - 1)) (x - X l (i - 1)) 0 65535 (by omega) (by omega) (by omega) (G.y0 _ (by omega)) (G.y0 _ h1) (G.y1 _ (by omega)) (G.y1 _ h1)

theorem between_end (l : List S42) (x : Int) (G : GoodCurve (X l) (Y l) l.length) (i k : Nat) (hi : i ≤ l.length) (h1 : 0 < i → X l (i - 1) ≤ x) (h2 : i < l.length → x < X l i) (hk : 2 ≤ k) :
    curve_between.j1 k l x (i : Int) = some (if i = 0 then Y l 0 else if i = l.length then Y l (l.length - 1) else line (X l) (Y l) i x) := by
  obtain ⟨k, rfl⟩ : ∃ m, k = m + 1 := ⟨k - 1, by omega⟩
  have h16 := G.most
  have h02 := G.two
  simp only [curve_between.j1]
  by_cases h0 : i = 0
  · subst h0
    rw [if_pos (by omega), if_pos (by omega), if_pos rfl, rdY0]
  · rw [if_neg (by omega), if_neg h0, wr_down i (by omega) (by omega), if_pos (by omega), if_pos (by omega), rdY, rdX]
    by_cases hn : i = l.length
    · rw [if_pos (by omega), if_pos hn, hn]
    · rw [if_neg (by omega), if_neg hn, if_pos (by omega), if_pos (by omega), rdY, rdX]
      have a0 := G.y0 (i - 1) (by omega)
      have a1 := G.y1 (i - 1) (by omega)
      have a2 := G.y0 i (by omega)
      have a3 := G.y1 i (by omega)
      have b0 := G.x0 (i - 1) (by omega)
      have b3 := G.x1 i (by omega)
      have h4 := h1 (by omega)
      have h5 := h2 (by omega)
      have h6 := line_small (Y l i - Y l (i - 1)) (x - X l (i - 1)) (by omega) (by omega) (by omega) (by omega)
      have h7 := line_range G i x (by omega) (by omega) h4 h5
      rw [wr (Y l i - Y l (i - 1)) (by omega) (by omega), wr (x - X l (i - 1)) (by omega) (by omega), wr (X l i - X l (i - 1)) (by omega) (by omega), wr _ (by omega) (by omega), div_f _ _ _ (by omega) (by omega) (by omega) (by omega) (by omega)]
      simp only [Option.bind_some]
      unfold line at h7 ⊢
      rw [wr _ (by omega) (by omega)]

theorem between_loop (l : List S42) (x : Int) (G : GoodCurve (X l) (Y l) l.length) : ∀ (d i k : Nat), i + d = l.length → d + 3 ≤ k → (0 < i → X l (i - 1) ≤ x) →
    curve_between.l0 k l x (i : Int) = some (let c := cnt (X l) x d i; if c = 0 then Y l 0 else if c = l.length then Y l (l.length - 1) else line (X l) (Y l) c x) := by
  have h16 := G.most
  intro d
  induction d with
  | zero =>
    intro i k hd hk h1
    obtain ⟨k, rfl⟩ : ∃ m, k = m + 1 := ⟨k - 1, by omega⟩
    simp only [curve_between.l0]
    rw [if_neg (by omega), between_end l x G i k (by omega) h1 (fun h => by omega) (by omega)]
    rfl
  | succ d ih =>
    intro i k hd hk h1
    obtain ⟨k, rfl⟩ : ∃ m, k = m + 1 := ⟨k - 1, by omega⟩
    simp only [curve_between.l0]
    rw [if_pos (by omega), if_pos (by omega), rdX]
    unfold cnt
    by_cases h2 : X l i ≤ x
    · rw [if_pos h2, if_pos h2, wr_up i (by omega)]
      exact ih (i + 1) k (by omega) (by omega) (fun _ => by simpa using h2)
    · rw [if_neg h2, if_neg h2]
      exact between_end l x G i k (by omega) h1 (fun _ => by omega) (by omega)

theorem between_f (k : Nat) (l : List S42) (x : Int) (G : GoodCurve (X l) (Y l) l.length) (hk : 20 ≤ k) : curve_between.f k l x = some (val (X l) (Y l) l.length x) := by
  have h16 := G.most
  unfold curve_between.f val
  exact between_loop l x G l.length 0 k (by omega) (by omega) (fun h => by omega)

theorem at_f (k : Nat) (l : List S42) (x : Int) (hk : 40 ≤ k) : curve_At.f k l x = some (atv (X l) (Y l) l.length x) := by
  unfold curve_At.f atv
  rw [clamp_unit, check_f k l hk]
  simp only [Option.bind_some]
  by_cases h : chk (X l) (Y l) l.length = 0
  · rw [if_pos h, if_pos h, between_f k l _ ((chk_ok _ _ _).1 h) (by omega)]
    rfl
  · rw [if_neg h, if_neg h]

/-! ### the reference's Check -/
theorem refunit (x : Int) : imageeditorref07_unit.f x = some (decide (0 ≤ x ∧ x ≤ 65535)) := by
  unfold imageeditorref07_unit.f
  by_cases h : x ≥ 0
  · rw [if_pos h]; simp [h]
  · rw [if_neg h]; simp; omega

theorem refcheck_loop (l : List S42) : ∀ (d i k : Nat), i + d = l.length → l.length ≤ 16 → 2 * d < k → imageeditorref07_Check.l0 k l (i : Int) = some (chkI (X l) (Y l) d i) := by
  intro d
  induction d with
  | zero =>
    intro i k hd hn hk
    obtain ⟨k, rfl⟩ : ∃ m, k = m + 1 := ⟨k - 1, by omega⟩
    simp only [imageeditorref07_Check.l0]
    rw [if_neg (by omega)]
    rfl
  | succ d ih =>
    intro i k hd hn hk
    obtain ⟨k, rfl⟩ : ∃ m, k = m + 2 := ⟨k - 2, by omega⟩
    have hj : ∀ b : Bool, (b = true ↔ (X l i < 0 ∨ Y l i < 0 ∨ 65535 < X l i ∨ 65535 < Y l i)) → imageeditorref07_Check.j1 (k + 1) l (i : Int) b = some (chkI (X l) (Y l) (d + 1) i) := by
      intro b hb
      simp only [imageeditorref07_Check.j1]
      unfold chkI
      by_cases h1 : b = true
      · rw [if_pos h1, if_pos (hb.1 h1)]
      · rw [if_neg h1, if_neg (fun h => h1 (hb.2 h))]
        by_cases h2 : 0 < i
        · rw [if_pos (by omega), wr_down i (by omega) h2, if_pos (by omega), if_pos (by omega), if_pos (by omega), if_pos (by omega), rdX, rdX]
          by_cases h3 : X l i ≤ X l (i - 1)
          · rw [if_pos h3, if_pos ⟨h2, h3⟩]
          · rw [if_neg h3, if_neg (fun h => h3 h.2), wr_up i (by omega)]
            exact ih (i + 1) k (by omega) hn (by omega)
        · rw [if_neg (by omega), if_neg (fun h => h2 h.1), wr_up i (by omega)]
          exact ih (i + 1) k (by omega) hn (by omega)
    simp only [imageeditorref07_Check.l0]
    rw [if_pos (by omega), if_pos (by omega), rdX, rdY, refunit, refunit]
    simp only [Option.bind_some]
    by_cases h1 : 0 ≤ X l i ∧ X l i ≤ 65535
    · rw [if_pos (by simpa using h1)]
      refine hj _ ?_
      by_cases h2 : 0 ≤ Y l i ∧ Y l i ≤ 65535
      · simp only [h2]; simp; omega
      · simp only [h2]; simp; omega
    · rw [if_neg (by simpa using h1)]
      exact hj true ⟨fun _ => by omega, fun _ => rfl⟩

theorem refcheck_f (k : Nat) (l : List S42) (hk : 40 ≤ k) : imageeditorref07_Check.f k l = some (chk (X l) (Y l) l.length) := by
  unfold imageeditorref07_Check.f chk
  by_cases h1 : l.length < 2
  · rw [if_pos (by omega), if_pos h1]
  · rw [if_neg (by omega), if_neg h1]
    by_cases h2 : 16 < l.length
    · rw [if_pos (by omega), if_pos h2]
    · rw [if_neg (by omega), if_neg h2]
      exact refcheck_loop l l.length 0 k (by omega) (by omega) (by omega)

/-! ### the reference's Rising -/
theorem refrising_loop (l : List S42) : ∀ (d i k : Nat), i + d = l.length → 0 < i → l.length ≤ 16 → d < k → ((∀ j, i ≤ j → j < l.length → Y l (j - 1) < Y l j) → imageeditorref07_Rising.l0 k l (i : Int) = some true) ∧ (¬ (∀ j, i ≤ j → j < l.length → Y l (j - 1) < Y l j) → imageeditorref07_Rising.l0 k l (i : Int) = some false) := by
  intro d
  induction d with
  | zero =>
    intro i k hd hi hn hk
    obtain ⟨k, rfl⟩ : ∃ m, k = m + 1 := ⟨k - 1, by omega⟩
    simp only [imageeditorref07_Rising.l0]
    rw [if_neg (by omega)]
    exact ⟨fun _ => rfl, fun h => absurd (fun j h1 h2 => by omega) h⟩
  | succ d ih =>
    intro i k hd hi hn hk
    obtain ⟨k, rfl⟩ : ∃ m, k = m + 1 := ⟨k - 1, by omega⟩
    simp only [imageeditorref07_Rising.l0]
    rw [if_pos (by omega), if_pos (by omega), wr_down i (by omega) hi, if_pos (by omega), if_pos (by omega), rdY, rdY, wr_up i (by omega)]
    obtain ⟨i1, i2⟩ := ih (i + 1) k (by omega) (by omega) hn (by omega)
    by_cases h1 : Y l i ≤ Y l (i - 1)
    · rw [if_pos h1]
      exact ⟨fun h => by have := h i (Nat.le_refl _) (by omega); omega, fun _ => rfl⟩
    · rw [if_neg h1]
      constructor
      · intro h
        exact i1 (fun j h2 h3 => h j (by omega) h3)
      · intro h
        refine i2 (fun h2 => h (fun j h3 h4 => ?_))
        rcases Nat.eq_or_lt_of_le h3 with rfl | h5
        · omega
        · exact h2 j h5 h4

theorem refrising_f (k : Nat) (l : List S42) (hk : 60 ≤ k) : (Rise l → imageeditorref07_Rising.f k l = some true) ∧ (¬ Rise l → imageeditorref07_Rising.f k l = some false) := by
  unfold imageeditorref07_Rising.f
  rw [refcheck_f k l (by omega)]
  simp only [Option.bind_some]
  obtain ⟨k, rfl⟩ : ∃ m, k = m + 1 := ⟨k - 1, by omega⟩
  by_cases hg : chk (X l) (Y l) l.length = 0
  · have G := (chk_ok _ _ _).1 hg
    have g2 := G.two
    have g16 := G.most
    rw [if_pos hg, if_pos (by omega), wr_down l.length (by omega) (by omega), rdX, rdY, rdX0, rdY0]
    by_cases h1 : X l 0 = 0 ∧ Y l 0 = 0
    · rw [if_neg (by rw [neq_flag]; simp [h1]), if_pos (by omega), if_pos (by omega)]
      simp only [imageeditorref07_Rising.j0]
      by_cases h2 : X l (l.length - 1) = 65535 ∧ Y l (l.length - 1) = 65535
      · rw [if_neg (by rw [neq_flag]; simp [h2])]
        obtain ⟨i1, i2⟩ := refrising_loop l (l.length - 1) 1 k (by omega) (by omega) (by omega) (by omega)
        constructor
        · intro h
          refine i1 (fun j h3 h4 => ?_)
          have := h.up (j - 1) (by omega)
          rw [show j - 1 + 1 = j by omega] at this
          exact this
        · intro h
          refine i2 (fun h3 => h ⟨G, h1.1, h1.2, h2.1, h2.2, fun i hi => ?_⟩)
          have := h3 (i + 1) (by omega) hi
          simpa using this
      · rw [if_pos (by rw [neq_flag]; exact h2)]
        exact ⟨fun h => absurd ⟨h.lx, h.ly⟩ h2, fun _ => rfl⟩
    · rw [if_pos (by rw [neq_flag]; exact h1)]
      simp only [imageeditorref07_Rising.j0]
      exact ⟨fun h => absurd ⟨h.fx, h.fy⟩ h1, fun _ => rfl⟩
  · rw [if_neg hg]
    simp only [imageeditorref07_Rising.j0]
    exact ⟨fun h => absurd ((chk_ok _ _ _).2 h.good) hg, fun _ => rfl⟩


/-! ### the reference's Unit, Floor, Div -/
theorem refunit_f (x : Int) : imageeditorref01_Unit.f x = some (lim x) := by
  unfold imageeditorref01_Unit.f imageeditorref01_Clamp.f mn mx lim
  simp only [Option.bind_some]
  congr 1
  repeat' split
  all_goals omega

theorem refabs_f (x : Int) (h0 : -4611686018427387904 ≤ x) (h1 : x ≤ 4611686018427387904) : imageeditorref01_Abs.f x = some (if x < 0 then -x else x) := by
  unfold imageeditorref01_Abs.f
  have e : ∀ z : Int, IntKind.u64.wrap z = z % 18446744073709551616 := fun z => by
    simp [IntKind.wrap_u64]
  by_cases h : x < 0
  · rw [if_pos h, if_pos h, e, e]
    congr 1
    omega
  · rw [if_neg h, if_neg h, e]
    congr 1
    omega

theorem reffloor_f (k : Nat) (a b : Int) (hk : 1 ≤ k) (hb : 0 < b) (ha : -4611686018427387904 ≤ a) (ha2 : a ≤ 4611686018427387904) : ∃ f, imageeditorref01_Floor.f k a b = some f ∧ b * f ≤ a ∧ a < b * f + b ∧ -4611686018427387904 ≤ f ∧ f ≤ 4611686018427387904 := by
  obtain ⟨h1, h2, h3⟩ := floor_end a b hb ha ha2
  obtain ⟨k, rfl⟩ : ∃ m, k = m + 1 := ⟨k - 1, by omega⟩
  unfold imageeditorref01_Floor.f
  rw [if_neg (by omega), if_neg (by omega)]
  simp only [imageeditorref01_Floor.j0]
  rw [if_neg (by simp), if_neg (by omega)]
  by_cases hm : Int.tmod a b = 0
  · rw [if_pos hm]
    exact ⟨_, rfl, h1 hm⟩
  · rw [if_neg hm]
    by_cases hs : a < 0
    · have := (h2 hm hs).1
      rw [if_pos (by simp [this]; omega)]
      exact ⟨_, rfl, (h2 hm hs).2⟩
    · have := (h3 hm (by omega)).1
      rw [if_neg (by simp; omega)]
      exact ⟨_, rfl, (h3 hm (by omega)).2⟩

theorem refdiv_f (k : Nat) (a b : Int) (hk : 1 ≤ k) (hb : 0 < b) (hb2 : b ≤ 4611686018427387904) (ha : -4611686018427387904 ≤ a) (ha2 : a ≤ 4611686018427387904) : imageeditorref01_Div.f k a b = some (rdiv a b) := by
  obtain ⟨f, hf, h1, h2, h3, h4⟩ := reffloor_f k a b hk hb ha ha2
  obtain ⟨k, rfl⟩ : ∃ m, k = m + 1 := ⟨k - 1, by omega⟩
  unfold imageeditorref01_Div.f
  rw [if_neg (by omega), hf]
  simp only [Option.bind_some]
  rw [if_neg (by omega)]
  simp only [imageeditorref01_Div.j0]
  have e : ∀ z : Int, IntKind.u64.wrap z = z % 18446744073709551616 := fun z => by
    simp [IntKind.wrap_u64]
  rw [if_neg (by simp), wr (b * f) (by omega) (by omega), wr (a - b * f) (by omega) (by omega), refabs_f _ (by omega) (by omega), refabs_f _ (by omega) (by omega)]
  simp only [Option.bind_some]
  rw [show (if a - b * f < 0 then -(a - b * f) else a - b * f) = a - b * f from if_neg (by omega), show (if b < 0 then -b else b) = b from if_neg (by omega), rdiv_floor a b f hb h1 h2, e]
  by_cases hc : b - (a - b * f) ≤ a - b * f
  · rw [if_pos (by omega), if_pos hc, wr (f + 1) (by omega) (by omega)]
  · rw [if_neg (by omega), if_neg hc]

/-! ### the reference's At -/
theorem refat_loop (l : List S42) (x : Int) (G : GoodCurve (X l) (Y l) l.length) : ∀ (d i k : Nat), i + d = l.length → d + 3 ≤ k → 0 < i → X l (i - 1) ≤ x →
    imageeditorref07_At.l0 k l x (i : Int) = some (let c := cnt (X l) x d i; if c = l.length then Y l (l.length - 1) else line (X l) (Y l) c x) := by
  have h16 := G.most
  have h02 := G.two
  intro d
  induction d with
  | zero =>
    intro i k hd hk h0 h1
    obtain ⟨k, rfl⟩ : ∃ m, k = m + 1 := ⟨k - 1, by omega⟩
    simp only [imageeditorref07_At.l0]
    rw [if_neg (by omega), wr_down l.length (by omega) (by omega), if_pos (by omega), if_pos (by omega), rdY]
    show _ = some (if i = l.length then Y l (l.length - 1) else line (X l) (Y l) i x)
    rw [if_pos (by omega)]
  | succ d ih =>
    intro i k hd hk h0 h1
    obtain ⟨k, rfl⟩ : ∃ m, k = m + 1 := ⟨k - 1, by omega⟩
    simp only [imageeditorref07_At.l0]
    rw [if_pos (by omega), if_pos (by omega), rdX]
    unfold cnt
    by_cases h2 : X l i ≤ x
    · rw [if_neg (by omega), if_pos h2, wr_up i (by omega)]
      exact ih (i + 1) k (by omega) (by omega) (by omega) (by simpa using h2)
    · rw [if_pos (by omega), if_neg h2, wr_down i (by omega) h0, if_pos (by omega), if_pos (by omega), rdX, rdY, rdY]
      show _ = some (if i = l.length then Y l (l.length - 1) else line (X l) (Y l) i x)
      rw [if_neg (by omega)]
      have a0 := G.y0 (i - 1) (by omega)
      have a1 := G.y1 (i - 1) (by omega)
      have a2 := G.y0 i (by omega)
      have a3 := G.y1 i (by omega)
      have b0 := G.x0 (i - 1) (by omega)
      have b3 := G.x1 i (by omega)
      have h6 := line_small (Y l i - Y l (i - 1)) (x - X l (i - 1)) (by omega) (by omega) (by omega) (by omega)
      have h7 := line_range G i x (by omega) (by omega) h1 (by omega)
      rw [wr (Y l i - Y l (i - 1)) (by omega) (by omega), wr (x - X l (i - 1)) (by omega) (by omega), wr (X l i - X l (i - 1)) (by omega) (by omega), wr _ (by omega) (by omega), refdiv_f _ _ _ (by omega) (by omega) (by omega) (by omega) (by omega)]
      simp only [Option.bind_some]
      unfold line at h7 ⊢
      rw [wr _ (by omega) (by omega)]

theorem refat_f (k : Nat) (l : List S42) (x : Int) (hk : 40 ≤ k) : imageeditorref07_At.f k l x = some (atv (X l) (Y l) l.length x) := by
  unfold imageeditorref07_At.f atv
  rw [refcheck_f k l hk, refunit_f]
  simp only [Option.bind_some]
  by_cases h : chk (X l) (Y l) l.length = 0
  · have G := (chk_ok _ _ _).1 h
    have h16 := G.most
    have h02 := G.two
    rw [if_pos h, if_pos h, if_pos (by omega), rdX0, rdY0, val_lim G]
    by_cases h1 : x ≤ X l 0
    · rw [if_pos h1, if_pos h1]
    · rw [if_neg h1, if_neg h1]
      exact refat_loop l x G (l.length - 1) 1 k (by omega) (by omega) (by omega) (by simpa using Int.le_of_lt (Int.not_le.1 h1))
  · rw [if_neg h, if_neg h]

/-! ### curve.Back -/
theorem mid_wr (lo hi : Int) (h0 : 0 ≤ lo) (h1 : lo ≤ 65535) (h2 : 0 ≤ hi) (h3 : hi ≤ 65535) : wrap64 (Int.tdiv (wrap64 (lo + hi)) 2) = (lo + hi) / 2 := by
  rw [wr (lo + hi) (by omega) (by omega), Int.tdiv_eq_ediv_of_nonneg (by omega), wr _ (by omega) (by omega)]

theorem back_loop (l : List S42) (y : Int) (G : GoodCurve (X l) (Y l) l.length) : ∀ (n k : Nat) (lo hi : Int), 0 ≤ lo → lo ≤ 65536 → hi ≤ 65535 → hi - lo < 2 ^ n → n + 22 ≤ k →
    curve_Back.l0 k l y lo hi = some (bsearch (fun m => decide (y ≤ val (X l) (Y l) l.length m)) n lo hi) := by
  intro n
  induction n with
  | zero =>
    intro k lo hi h0 h1 h2 h3 hk
    obtain ⟨k, rfl⟩ : ∃ m, k = m + 1 := ⟨k - 1, by omega⟩
    simp only [curve_Back.l0]
    rw [if_neg (by omega)]
    rfl
  | succ n ih =>
    intro k lo hi h0 h1 h2 h3 hk
    obtain ⟨k, rfl⟩ : ∃ m, k = m + 1 := ⟨k - 1, by omega⟩
    rw [Int.pow_succ] at h3
    simp only [curve_Back.l0, bsearch]
    by_cases hlt : lo < hi
    · rw [if_pos hlt, if_pos hlt, mid_wr lo hi h0 (by omega) (by omega) h2, between_f k l _ G (by omega)]
      simp only [Option.bind_some]
      by_cases hc : y ≤ val (X l) (Y l) l.length ((lo + hi) / 2)
      · rw [if_pos hc, if_pos (by simpa using hc)]
        exact ih k lo _ h0 h1 (by omega) (by omega) (by omega)
      · rw [if_neg hc, if_neg (by simpa using hc), wr _ (by omega) (by omega)]
        exact ih k _ hi (by omega) (by omega) h2 (by omega) (by omega)
    · rw [if_neg hlt, if_neg hlt]

def backv (l : List S42) (y : Int) : Int := bsearch (fun m => decide (lim y ≤ val (X l) (Y l) l.length m)) 17 0 65535

theorem back_f (k : Nat) (l : List S42) (y : Int) (hk : 100 ≤ k) : (Rise l → curve_Back.f k l y = some (backv l y)) ∧ (¬ Rise l → curve_Back.f k l y = some (-1)) := by
  obtain ⟨a1, a2⟩ := rising_f k l (by omega)
  constructor
  · intro h
    unfold curve_Back.f
    rw [a1 h, clamp_unit]
    simp only [Option.bind_some, if_true]
    exact back_loop l (lim y) h.good 17 k 0 65535 (by omega) (by omega) (by omega) (by decide) (by omega)
  · intro h
    unfold curve_Back.f
    rw [a2 h]
    rfl

theorem back_least (l : List S42) (h : Rise l) (y : Int) : 0 ≤ backv l y ∧ backv l y ≤ 65535 ∧ lim y ≤ val (X l) (Y l) l.length (backv l y) ∧ ∀ m, 0 ≤ m → m < backv l y → val (X l) (Y l) l.length m < lim y := by
  have hm : ∀ a b : Int, a ≤ b → decide (lim y ≤ val (X l) (Y l) l.length a) = true → decide (lim y ≤ val (X l) (Y l) l.length b) = true := by
    intro a b hab ha
    have h1 := val_mono h.good (fun i hi => Int.le_of_lt (h.up i hi)) a b hab
    rw [decide_eq_true_eq] at ha ⊢
    omega
  have h2 := h.good.two
  obtain ⟨b1, b2, b3, b4⟩ := bsearch_spec (fun m => decide (lim y ≤ val (X l) (Y l) l.length m)) hm 17 0 65535 (by omega) (by decide)
  refine ⟨b1, b2, ?_, ?_⟩
  · rcases (by omega : bsearch (fun m => decide (lim y ≤ val (X l) (Y l) l.length m)) 17 0 65535 < 65535 ∨ bsearch (fun m => decide (lim y ≤ val (X l) (Y l) l.length m)) 17 0 65535 = 65535) with h3 | h3
    · exact of_decide_eq_true (b4 h3)
    · show lim y ≤ val (X l) (Y l) l.length (bsearch _ 17 0 65535)
      rw [h3]
      have hk := val_knot h.good (l.length - 1) (by omega)
      rw [h.lx, h.ly] at hk
      rw [hk]
      exact (lim_range y).2
  · intro m m0 m1
    have := b3 m m0 m1
    simpa using this

/-! ### the reference's Back -/
theorem refback_loop (l : List S42) (y : Int) (G : GoodCurve (X l) (Y l) l.length) : ∀ (n k : Nat) (lo hi : Int), 0 ≤ lo → lo ≤ 65536 → hi ≤ 65535 → hi - lo < 2 ^ n → n + 42 ≤ k →
    imageeditorref07_Back.l0 k l y lo hi = some (bsearch (fun m => decide (lim y ≤ val (X l) (Y l) l.length m)) n lo hi) := by
  intro n
  induction n with
  | zero =>
    intro k lo hi h0 h1 h2 h3 hk
    obtain ⟨k, rfl⟩ : ∃ m, k = m + 1 := ⟨k - 1, by omega⟩
    simp only [imageeditorref07_Back.l0]
    rw [if_neg (by omega)]
    rfl
  | succ n ih =>
    intro k lo hi h0 h1 h2 h3 hk
    obtain ⟨k, rfl⟩ : ∃ m, k = m + 1 := ⟨k - 1, by omega⟩
    rw [Int.pow_succ] at h3
    simp only [imageeditorref07_Back.l0, bsearch]
    by_cases hlt : lo < hi
    · rw [if_pos hlt, if_pos hlt, mid_wr lo hi h0 (by omega) (by omega) h2, refat_f k l _ (by omega), refunit_f]
      simp only [Option.bind_some]
      have e : atv (X l) (Y l) l.length ((lo + hi) / 2) = val (X l) (Y l) l.length ((lo + hi) / 2) := by
        unfold atv
        rw [if_pos ((chk_ok _ _ _).2 G), lim_id (by omega) (by omega)]
      rw [e]
      by_cases hc : lim y ≤ val (X l) (Y l) l.length ((lo + hi) / 2)
      · rw [if_pos hc, if_pos (by simpa using hc)]
        exact ih k lo _ h0 h1 (by omega) (by omega) (by omega)
      · rw [if_neg hc, if_neg (by simpa using hc), wr _ (by omega) (by omega)]
        exact ih k _ hi (by omega) (by omega) h2 (by omega) (by omega)
    · rw [if_neg hlt, if_neg hlt]

theorem refback_f (k : Nat) (l : List S42) (y : Int) (hk : 100 ≤ k) : (Rise l → imageeditorref07_Back.f k l y = some (backv l y)) ∧ (¬ Rise l → imageeditorref07_Back.f k l y = some (-1)) := by
  obtain ⟨a1, a2⟩ := refrising_f k l (by omega)
  constructor
  · intro h
    unfold imageeditorref07_Back.f
    rw [a1 h]
    simp only [Option.bind_some, if_true]
    exact refback_loop l y h.good 17 k 0 65535 (by omega) (by omega) (by omega) (by decide) (by omega)
  · intro h
    unfold imageeditorref07_Back.f
    rw [a2 h]
    rfl

theorem CurveBacks (l : List S42) (_ : ∀ p ∈ l, (Lit.int .i64 p.f0).wf = true ∧ (Lit.int .i64 p.f1).wf = true) (x : Int) (_ : (Lit.int .i64 x).wf = true) : ∃ k, imageeditorlaw07_CurveBacks.f k l x = some true := by
  refine ⟨300, ?_⟩
  unfold imageeditorlaw07_CurveBacks.f
  obtain ⟨a1, a2⟩ := back_f 300 l x (by omega)
  obtain ⟨b1, b2⟩ := refback_f 300 l x (by omega)
  by_cases h : Rise l
  · rw [a1 h, b1 h]
    simp only [Option.bind_some, if_true]
    rw [example_f 300 (by omega)]
    rfl
  · rw [a2 h, b2 h]
    simp only [Option.bind_some, if_true]
    rw [example_f 300 (by omega)]
    rfl

end Go.Proofs.Ytmgpmpiondciiaa.Pure
