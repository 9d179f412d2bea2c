/- curve.Table against the reference's, as plain functions of lists and numbers. No condition. -/
import Derived.Test.YtmgpmpiondciiaaPCurveBacksx2
import Derived.Test.YtmgpmpiondciiaaPCurveBacksx3
import Derived.Test.YtmgpmpiondciiaaPCurveBacksx4
import Derived.Test.YtmgpmpiondciiaaPCurveBacksx5
import Derived.Test.YtmgpmpiondciiaaMath
import Derived.Lib.Hide
namespace Go.Proofs.Ytmgpmpiondciiaa.Pure
open Go.RowKit Go.Proofs.Ytmgpmpiondciiaa.PCurveBacks Go.Proofs.YtmgpmpiondciiaaW.PrintWords Go.Proofs.YtmgpmpiondciiaaW.PrintLast Go.Proofs.YtmgpmpiondciiaaW.PrintMore Go.Proofs.Ytmgpmpiondciiaa.Plain

/-- The knots' places and values, by their number. -/
def X (l : List S42) (i : Nat) : Int := (l.getD i z42).f0
def Y (l : List S42) (i : Nat) : Int := (l.getD i z42).f1
theorem rdX (l : List S42) (i : Nat) : (rd_T42 l (i : Int)).f0 = X l i := rfl
theorem rdY (l : List S42) (i : Nat) : (rd_T42 l (i : Int)).f1 = Y l i := rfl
theorem rdX0 (l : List S42) : (rd_T42 l 0).f0 = X l 0 := rfl
theorem rdY0 (l : List S42) : (rd_T42 l 0).f1 = Y l 0 := rfl
theorem wr (x : Int) (h0 : -9223372036854775808 ≤ x) (h1 : x ≤ 9223372036854775807) : wrap64 x = x := by unfold wrap64; omega
theorem wr_up (i : Nat) (h : i ≤ 100000) : wrap64 ((i : Int) + 1) = ((i + 1 : Nat) : Int) := by rw [wr _ (by omega) (by omega)]; omega
theorem wr_down (i : Nat) (h : i ≤ 100000) (h0 : 0 < i) : wrap64 ((i : Int) - 1) = ((i - 1 : Nat) : Int) := by rw [wr _ (by omega) (by omega)]; omega

/-! ### num.Clamp, num.Floor, num.Div -/
theorem clamp_unit (x : Int) : num_Clamp.f x 0 65535 = some (lim x) := by
  unfold num_Clamp.f mn mx lim
  congr 1
  repeat' split
  all_goals omega

/-- The floor's two parts: for a negative number by the parts of its opposite. -/
theorem floor_parts (a b : Int) : (0 ≤ a → Int.tdiv a b = a / b ∧ Int.tmod a b = a % b) ∧ (a < 0 → Int.tdiv a b = -((-a) / b) ∧ Int.tmod a b = -((-a) % b)) := by
  constructor
  · intro h
    exact ⟨Int.tdiv_eq_ediv_of_nonneg h, Int.tmod_eq_emod_of_nonneg h⟩
  · intro h
    have h1 : a = -(-a) := by omega
    constructor
    · rw [h1, Int.neg_tdiv, Int.tdiv_eq_ediv_of_nonneg (by omega)]
      simp
    · rw [h1, Int.neg_tmod, Int.tmod_eq_emod_of_nonneg (by omega)]
      simp

/-- What both Floors come to: a number f with b f at most a, and b (f + 1) more. -/
theorem floor_end (a b : Int) (hb : 0 < b) (ha : -4611686018427387904 ≤ a) (ha2 : a ≤ 4611686018427387904) :
    (Int.tmod a b = 0 → b * (wrap64 (Int.tdiv a b)) ≤ a ∧ a < b * (wrap64 (Int.tdiv a b)) + b ∧ -4611686018427387904 ≤ wrap64 (Int.tdiv a b) ∧ wrap64 (Int.tdiv a b) ≤ 4611686018427387904) ∧
    (Int.tmod a b ≠ 0 → a < 0 → Int.tmod a b < 0 ∧ b * (wrap64 (wrap64 (Int.tdiv a b) - 1)) ≤ a ∧ a < b * (wrap64 (wrap64 (Int.tdiv a b) - 1)) + b ∧ -4611686018427387904 ≤ wrap64 (wrap64 (Int.tdiv a b) - 1) ∧ wrap64 (wrap64 (Int.tdiv a b) - 1) ≤ 4611686018427387904) ∧
    (Int.tmod a b ≠ 0 → 0 ≤ a → 0 ≤ Int.tmod a b ∧ b * (wrap64 (Int.tdiv a b)) ≤ a ∧ a < b * (wrap64 (Int.tdiv a b)) + b ∧ -4611686018427387904 ≤ wrap64 (Int.tdiv a b) ∧ wrap64 (Int.tdiv a b) ≤ 4611686018427387904) := by
  obtain ⟨hp, hn⟩ := floor_parts a b
  rcases (by omega : 0 ≤ a ∨ a < 0) with h | h
  · obtain ⟨e1, e2⟩ := hp h
    have h1 := Int.mul_ediv_add_emod a b
    have h2 := Int.emod_nonneg a (show b ≠ 0 by omega)
    have h3 := Int.emod_lt_of_pos a hb
    have h4 : a / b ≤ a := Int.ediv_le_self b h
    have h5 : 0 ≤ a / b := Int.ediv_nonneg h (by omega)
    rw [e1, e2, wr (a / b) (by omega) (by omega)]
    exact ⟨fun _ => by omega, fun _ _ => by omega, fun _ _ => by omega⟩
  · obtain ⟨e1, e2⟩ := hn h
    have h1 := Int.mul_ediv_add_emod (-a) b
    have h2 := Int.emod_nonneg (-a) (show b ≠ 0 by omega)
    have h3 := Int.emod_lt_of_pos (-a) hb
    have h4 : (-a) / b ≤ (-a) := Int.ediv_le_self b (by omega)
    have h5 : 0 ≤ (-a) / b := Int.ediv_nonneg (by omega) (by omega)
    rw [e1, e2, wr (-((-a) / b)) (by omega) (by omega)]
    have h6 : b * (-((-a) / b)) = -(b * ((-a) / b)) := Int.mul_neg _ _
    have h7 : b * (-((-a) / b) - 1) = -(b * ((-a) / b)) - b := by rw [Int.mul_sub, h6, Int.mul_one]
    refine ⟨fun _ => by omega, fun hm _ => ?_, fun _ _ => by omega⟩
    have h8 : -4611686018427387904 ≤ -((-a) / b) - 1 := by
      rcases (by omega : b = 1 ∨ 2 ≤ b) with h9 | h9
      · subst h9; simp at hm
      · have : 2 * ((-a) / b) ≤ b * ((-a) / b) := Int.mul_le_mul_of_nonneg_right h9 h5
        omega
    rw [wr (-((-a) / b) - 1) (by omega) (by omega)]
    omega

theorem floor_f (a b : Int) (hb : 0 < b) (ha : -4611686018427387904 ≤ a) (ha2 : a ≤ 4611686018427387904) : ∃ f, num_Floor.f a b = some f ∧ b * f ≤ a ∧ a < b * f + b ∧ -4611686018427387904 ≤ f ∧ f ≤ 4611686018427387904 := by
  obtain ⟨h1, h2, h3⟩ := floor_end a b hb ha ha2
  unfold num_Floor.f
  rw [if_neg (by omega), if_neg (by omega)]
  by_cases hm : Int.tmod a b = 0
  · rw [if_pos hm]
    exact ⟨_, rfl, h1 hm⟩
  · rw [if_neg hm]
    by_cases hs : a < 0
    · rw [if_pos (by simp [hs]; omega)]
      exact ⟨_, rfl, (h2 hm hs).2⟩
    · rw [if_neg (by simp [hs]; omega)]
      exact ⟨_, rfl, (h3 hm (by omega)).2⟩

theorem div_f (k : Nat) (a b : Int) (hk : 1 ≤ k) (hb : 0 < b) (hb2 : b ≤ 4611686018427387904) (ha : -4611686018427387904 ≤ a) (ha2 : a ≤ 4611686018427387904) : num_Div.f k a b = some (rdiv a b) := by
  obtain ⟨f, hf, h1, h2, h3, h4⟩ := floor_f a b hb ha ha2
  obtain ⟨k, rfl⟩ : ∃ m, k = m + 1 := ⟨k - 1, by omega⟩
  unfold num_Div.f
  rw [hf]
  simp only [Option.bind_some]
  rw [if_neg (by omega), show (b == -1) = false by simp; omega]
  simp only [num_Div.j0]
  rw [if_neg (by simp), if_pos (by omega)]
  have e1 : f * b = b * f := Int.mul_comm f b
  rw [e1, wr (b * f) (by omega) (by omega), wr (a - b * f) (by omega) (by omega), wr (b - (a - b * f)) (by omega) (by omega)]
  rw [rdiv_floor a b f hb h1 h2]
  by_cases hc : b - (a - b * f) ≤ a - b * f
  · rw [if_pos hc, if_pos hc, wr (f + 1) (by omega) (by omega)]
  · rw [if_neg hc, if_neg hc, if_neg (by omega)]

/-! ### curve.Check -/
theorem check_loop (l : List S42) : ∀ (d i k : Nat), i + d = l.length → l.length ≤ 16 → 2 * d < k → curve_Check.l0 k l l (l.length : Int) (i : Int) = some (chkI (X l) (Y l) d i) := by
  intro d
  induction d with
  | zero =>
    intro i k hd hn hk
    obtain ⟨k, rfl⟩ : ∃ m, k = m + 1 := ⟨k - 1, by omega⟩
    simp only [curve_Check.l0]
    rw [if_neg (by omega)]
    rfl
  | succ d ih =>
    intro i k hd hn hk
    obtain ⟨k, rfl⟩ : ∃ m, k = m + 2 := ⟨k - 2, by omega⟩
    have hj : ∀ b : Bool, (b = true ↔ (X l i < 0 ∨ Y l i < 0 ∨ 65535 < X l i ∨ 65535 < Y l i)) → curve_Check.j1 (k + 1) l (i : Int) l (l.length : Int) (i : Int) b (X l i) (Y l i) = some (chkI (X l) (Y l) (d + 1) i) := by
      intro b hb
      simp only [curve_Check.j1]
      unfold chkI
      by_cases h1 : b = true
      · rw [if_pos h1, if_pos (hb.1 h1)]
      · rw [if_neg h1, if_neg (fun h => h1 (hb.2 h))]
        by_cases h2 : 0 < i
        · rw [if_pos (by omega), wr_down i (by omega) h2, if_pos (by omega), if_pos (by omega), rdX]
          by_cases h3 : X l i ≤ X l (i - 1)
          · rw [if_pos h3, if_pos ⟨h2, h3⟩]
          · rw [if_neg h3, if_neg (fun h => h3 h.2), wr_up i (by omega)]
            exact ih (i + 1) k (by omega) hn (by omega)
        · rw [if_neg (by omega), if_neg (fun h => h2 h.1), wr_up i (by omega)]
          exact ih (i + 1) k (by omega) hn (by omega)
    simp only [curve_Check.l0]
    rw [if_pos (by omega), if_pos (by omega), if_pos (by omega), rdX, rdY]
    by_cases h1 : mn (X l i) (Y l i) < 0
    · rw [if_pos h1]
      refine hj true ⟨fun _ => ?_, fun _ => rfl⟩
      unfold mn at h1
      split at h1 <;> omega
    · rw [if_neg h1]
      refine hj _ ?_
      rw [decide_eq_true_eq]
      unfold mn at h1
      unfold mx
      split at h1 <;> split <;> omega

theorem check_f (k : Nat) (l : List S42) (hk : 40 ≤ k) : curve_Check.f k l = some (chk (X l) (Y l) l.length) := by
  unfold curve_Check.f chk
  by_cases h1 : l.length < 2
  · rw [if_pos (by omega), if_pos h1]
  · rw [if_neg (by omega), if_neg h1]
    by_cases h2 : 16 < l.length
    · rw [if_pos (by omega), if_pos h2]
    · rw [if_neg (by omega), if_neg h2]
      exact check_loop l l.length 0 k (by omega) (by omega) (by omega)

/-! ### curve.Rising -/
structure Rise (l : List S42) : Prop where
  good : GoodCurve (X l) (Y l) l.length
  fx : X l 0 = 0
  fy : Y l 0 = 0
  lx : X l (l.length - 1) = 65535
  ly : Y l (l.length - 1) = 65535
  up : ∀ i, i + 1 < l.length → Y l i < Y l (i + 1)

theorem rising_loop (l : List S42) : ∀ (d i k : Nat), i + d = l.length → 0 < i → l.length ≤ 16 → d < k → ((∀ j, i ≤ j → j < l.length → Y l (j - 1) < Y l j) → curve_Rising.l0 k l (i : Int) = some true) ∧ (¬ (∀ j, i ≤ j → j < l.length → Y l (j - 1) < Y l j) → curve_Rising.l0 k l (i : Int) = some false) := by
  intro d
  induction d with
  | zero =>
    intro i k hd hi hn hk
    obtain ⟨k, rfl⟩ : ∃ m, k = m + 1 := ⟨k - 1, by omega⟩
    simp only [curve_Rising.l0]
    rw [if_neg (by omega)]
    exact ⟨fun _ => rfl, fun h => absurd (fun j h1 h2 => by omega) h⟩
  | succ d ih =>
    intro i k hd hi hn hk
    obtain ⟨k, rfl⟩ : ∃ m, k = m + 1 := ⟨k - 1, by omega⟩
    simp only [curve_Rising.l0]
    rw [if_pos (by omega), if_pos (by omega), wr_down i (by omega) hi, if_pos (by omega), if_pos (by omega), rdY, rdY, wr_up i (by omega)]
    obtain ⟨i1, i2⟩ := ih (i + 1) k (by omega) (by omega) hn (by omega)
    by_cases h1 : Y l i ≤ Y l (i - 1)
    · rw [if_pos h1]
      exact ⟨fun h => by have := h i (Nat.le_refl _) (by omega); omega, fun _ => rfl⟩
    · rw [if_neg h1]
      constructor
      · intro h
        exact i1 (fun j h2 h3 => h j (by omega) h3)
      · intro h
        refine i2 (fun h2 => h (fun j h3 h4 => ?_))
        rcases Nat.eq_or_lt_of_le h3 with rfl | h5
        · omega
        · exact h2 j h5 h4

theorem neq_flag (a b c d : Int) : (!(a == b) || !(c == d)) = true ↔ ¬ (a = b ∧ c = d) := by
  by_cases h1 : a = b <;> by_cases h2 : c = d <;> simp [h1, h2]

theorem rising_f (k : Nat) (l : List S42) (hk : 60 ≤ k) : (Rise l → curve_Rising.f k l = some true) ∧ (¬ Rise l → curve_Rising.f k l = some false) := by
  unfold curve_Rising.f
  rw [check_f k l (by omega)]
  simp only [Option.bind_some]
  obtain ⟨k, rfl⟩ : ∃ m, k = m + 1 := ⟨k - 1, by omega⟩
  by_cases hg : chk (X l) (Y l) l.length = 0
  · have G := (chk_ok _ _ _).1 hg
    have g2 := G.two
    have g16 := G.most
    rw [if_pos hg, if_pos (by omega), wr_down l.length (by omega) (by omega), rdX, rdY, rdX0, rdY0]
    by_cases h1 : X l 0 = 0 ∧ Y l 0 = 0
    · rw [if_neg (by rw [neq_flag]; simp [h1]), if_pos (by omega), if_pos (by omega)]
      simp only [curve_Rising.j0]
      by_cases h2 : X l (l.length - 1) = 65535 ∧ Y l (l.length - 1) = 65535
      · rw [if_neg (by rw [neq_flag]; simp [h2])]
        obtain ⟨i1, i2⟩ := rising_loop l (l.length - 1) 1 k (by omega) (by omega) (by omega) (by omega)
        constructor
        · intro h
          refine i1 (fun j h3 h4 => ?_)
          have := h.up (j - 1) (by omega)
          rw [show j - 1 + 1 = j by omega] at this
          exact this
        · intro h
          refine i2 (fun h3 => h ⟨G, h1.1, h1.2, h2.1, h2.2, fun i hi => ?_⟩)
          have := h3 (i + 1) (by omega) hi
          simpa using this
      · rw [if_pos (by rw [neq_flag]; exact h2)]
        exact ⟨fun h => absurd ⟨h.lx, h.ly⟩ h2, fun _ => rfl⟩
    · rw [if_pos (by rw [neq_flag]; exact h1)]
      simp only [curve_Rising.j0]
      exact ⟨fun h => absurd ⟨h.fx, h.fy⟩ h1, fun _ => rfl⟩
  · rw [if_neg hg]
    simp only [curve_Rising.j0]
    exact ⟨fun h => absurd ((chk_ok _ _ _).2 h.good) hg, fun _ => rfl⟩

/-! ### the chapter's examples -/
theorem example_at : imageeditorlaw07_example.f 100 = some true := by decide +kernel
theorem example_f (k : Nat) (hk : 100 ≤ k) : imageeditorlaw07_example.f k = some true := at_rounds (fun k => imageeditorlaw07_example.mono k) hk example_at

/-! ### curve.between, curve.At -/
theorem wr_add_pos (a b : Int) (h0 : -9223372036854775808 ≤ a + b) (h1 : a + b ≤ 9223372036854775807) : wrap64 (a + b) = a + b := wr _ h0 h1

/-- The products in a line stay small. -/
theorem line_small (dy dt : Int) (h0 : -65535 ≤ dy) (h1 : dy ≤ 65535) (h2 : 0 ≤ dt) (h3 : dt ≤ 65535) : -4294836225 ≤ dy * dt ∧ dy * dt ≤ 4294836225 := by
  have a : dy * dt ≤ 65535 * dt := Int.mul_le_mul_of_nonneg_right h1 h2
  have b : -65535 * dt ≤ dy * dt := Int.mul_le_mul_of_nonneg_right h0 h2
  omega

theorem line_range {l : List S42} (G : GoodCurve (X l) (Y l) l.length) (i : Nat) (x : Int) (h0 : 0 < i) (h1 : i < l.length) (h2 : X l (i - 1) ≤ x) (h3 : x < X l i) : 0 ≤ line (X l) (Y l) i x ∧ line (X l) (Y l) i x ≤ 65535 := by
  have h4 := G.lt i (i - 1) (by omega) h1
  exact line_between (Y l (i - 1)) (Y l i) (X l i - X l (i - 1)) (x - X l (i - 1)) 0 65535 (by omega) (by omega) (by omega) (G.y0 _ (by omega)) (G.y0 _ h1) (G.y1 _ (by omega)) (G.y1 _ h1)

theorem between_end (l : List S42) (x : Int) (G : GoodCurve (X l) (Y l) l.length) (i k : Nat) (hi : i ≤ l.length) (h1 : 0 < i → X l (i - 1) ≤ x) (h2 : i < l.length → x < X l i) (hk : 2 ≤ k) :
    curve_between.j1 k l x (i : Int) = some (if i = 0 then Y l 0 else if i = l.length then Y l (l.length - 1) else line (X l) (Y l) i x) := by
  obtain ⟨k, rfl⟩ : ∃ m, k = m + 1 := ⟨k - 1, by omega⟩
  have h16 := G.most
  have h02 := G.two
  simp only [curve_between.j1]
  by_cases h0 : i = 0
  · subst h0
    rw [if_pos (by omega), if_pos (by omega), if_pos rfl, rdY0]
  · rw [if_neg (by omega), if_neg h0, wr_down i (by omega) (by omega), if_pos (by omega), if_pos (by omega), rdY, rdX]
    by_cases hn : i = l.length
    · rw [if_pos (by omega), if_pos hn, hn]
    · rw [if_neg (by omega), if_neg hn, if_pos (by omega), if_pos (by omega), rdY, rdX]
      have a0 := G.y0 (i - 1) (by omega)
      have a1 := G.y1 (i - 1) (by omega)
      have a2 := G.y0 i (by omega)
      have a3 := G.y1 i (by omega)
      have b0 := G.x0 (i - 1) (by omega)
      have b3 := G.x1 i (by omega)
      have h4 := h1 (by omega)
      have h5 := h2 (by omega)
      have h6 := line_small (Y l i - Y l (i - 1)) (x - X l (i - 1)) (by omega) (by omega) (by omega) (by omega)
      have h7 := line_range G i x (by omega) (by omega) h4 h5
      rw [wr (Y l i - Y l (i - 1)) (by omega) (by omega), wr (x - X l (i - 1)) (by omega) (by omega), wr (X l i - X l (i - 1)) (by omega) (by omega), wr _ (by omega) (by omega), div_f _ _ _ (by omega) (by omega) (by omega) (by omega) (by omega)]
      simp only [Option.bind_some]
      unfold line at h7 ⊢
      rw [wr _ (by omega) (by omega)]

theorem between_loop (l : List S42) (x : Int) (G : GoodCurve (X l) (Y l) l.length) : ∀ (d i k : Nat), i + d = l.length → d + 3 ≤ k → (0 < i → X l (i - 1) ≤ x) →
    curve_between.l0 k l x (i : Int) = some (let c := cnt (X l) x d i; if c = 0 then Y l 0 else if c = l.length then Y l (l.length - 1) else line (X l) (Y l) c x) := by
  have h16 := G.most
  intro d
  induction d with
  | zero =>
    intro i k hd hk h1
    obtain ⟨k, rfl⟩ : ∃ m, k = m + 1 := ⟨k - 1, by omega⟩
    simp only [curve_between.l0]
    rw [if_neg (by omega), between_end l x G i k (by omega) h1 (fun h => by omega) (by omega)]
    rfl
  | succ d ih =>
    intro i k hd hk h1
    obtain ⟨k, rfl⟩ : ∃ m, k = m + 1 := ⟨k - 1, by omega⟩
    simp only [curve_between.l0]
    rw [if_pos (by omega), if_pos (by omega), rdX]
    unfold cnt
    by_cases h2 : X l i ≤ x
    · rw [if_pos h2, if_pos h2, wr_up i (by omega)]
      exact ih (i + 1) k (by omega) (by omega) (fun _ => by simpa using h2)
    · rw [if_neg h2, if_neg h2]
      exact between_end l x G i k (by omega) h1 (fun _ => by omega) (by omega)

theorem between_f (k : Nat) (l : List S42) (x : Int) (G : GoodCurve (X l) (Y l) l.length) (hk : 20 ≤ k) : curve_between.f k l x = some (val (X l) (Y l) l.length x) := by
  have h16 := G.most
  unfold curve_between.f val
  exact between_loop l x G l.length 0 k (by omega) (by omega) (fun h => by omega)

theorem at_f (k : Nat) (l : List S42) (x : Int) (hk : 40 ≤ k) : curve_At.f k l x = some (atv (X l) (Y l) l.length x) := by
  unfold curve_At.f atv
  rw [clamp_unit, check_f k l hk]
  simp only [Option.bind_some]
  by_cases h : chk (X l) (Y l) l.length = 0
  · rw [if_pos h, if_pos h, between_f k l _ ((chk_ok _ _ _).1 h) (by omega)]
    rfl
  · rw [if_neg h, if_neg h]

/-! ### the reference's Check -/
theorem refunit (x : Int) : imageeditorref07_unit.f x = some (decide (0 ≤ x ∧ x ≤ 65535)) := by
  unfold imageeditorref07_unit.f
  by_cases h : x ≥ 0
  · rw [if_pos h]; simp [h]
  · rw [if_neg h]; simp; omega

theorem refcheck_loop (l : List S42) : ∀ (d i k : Nat), i + d = l.length → l.length ≤ 16 → 2 * d < k → imageeditorref07_Check.l0 k l (i : Int) = some (chkI (X l) (Y l) d i) := by
  intro d
  induction d with
  | zero =>
    intro i k hd hn hk
    obtain ⟨k, rfl⟩ : ∃ m, k = m + 1 := ⟨k - 1, by omega⟩
    simp only [imageeditorref07_Check.l0]
    rw [if_neg (by omega)]
    rfl
  | succ d ih =>
    intro i k hd hn hk
    obtain ⟨k, rfl⟩ : ∃ m, k = m + 2 := ⟨k - 2, by omega⟩
    have hj : ∀ b : Bool, (b = true ↔ (X l i < 0 ∨ Y l i < 0 ∨ 65535 < X l i ∨ 65535 < Y l i)) → imageeditorref07_Check.j1 (k + 1) l (i : Int) b = some (chkI (X l) (Y l) (d + 1) i) := by
      intro b hb
      simp only [imageeditorref07_Check.j1]
      unfold chkI
      by_cases h1 : b = true
      · rw [if_pos h1, if_pos (hb.1 h1)]
      · rw [if_neg h1, if_neg (fun h => h1 (hb.2 h))]
        by_cases h2 : 0 < i
        · rw [if_pos (by omega), wr_down i (by omega) h2, if_pos (by omega), if_pos (by omega), if_pos (by omega), if_pos (by omega), rdX, rdX]
          by_cases h3 : X l i ≤ X l (i - 1)
          · rw [if_pos h3, if_pos ⟨h2, h3⟩]
          · rw [if_neg h3, if_neg (fun h => h3 h.2), wr_up i (by omega)]
            exact ih (i + 1) k (by omega) hn (by omega)
        · rw [if_neg (by omega), if_neg (fun h => h2 h.1), wr_up i (by omega)]
          exact ih (i + 1) k (by omega) hn (by omega)
    simp only [imageeditorref07_Check.l0]
    rw [if_pos (by omega), if_pos (by omega), rdX, rdY, refunit, refunit]
    simp only [Option.bind_some]
    by_cases h1 : 0 ≤ X l i ∧ X l i ≤ 65535
    · rw [if_pos (by simpa using h1)]
      refine hj _ ?_
      by_cases h2 : 0 ≤ Y l i ∧ Y l i ≤ 65535
      · simp only [h2]; simp; omega
      · simp only [h2]; simp; omega
    · rw [if_neg (by simpa using h1)]
      exact hj true ⟨fun _ => by omega, fun _ => rfl⟩

theorem refcheck_f (k : Nat) (l : List S42) (hk : 40 ≤ k) : imageeditorref07_Check.f k l = some (chk (X l) (Y l) l.length) := by
  unfold imageeditorref07_Check.f chk
  by_cases h1 : l.length < 2
  · rw [if_pos (by omega), if_pos h1]
  · rw [if_neg (by omega), if_neg h1]
    by_cases h2 : 16 < l.length
    · rw [if_pos (by omega), if_pos h2]
    · rw [if_neg (by omega), if_neg h2]
      exact refcheck_loop l l.length 0 k (by omega) (by omega) (by omega)

/-! ### the reference's Unit, Floor, Div -/
theorem refunit_f (x : Int) : imageeditorref01_Unit.f x = some (lim x) := by
  unfold imageeditorref01_Unit.f imageeditorref01_Clamp.f mn mx lim
  simp only [Option.bind_some]
  congr 1
  repeat' split
  all_goals omega

theorem refabs_f (x : Int) (h0 : -4611686018427387904 ≤ x) (h1 : x ≤ 4611686018427387904) : imageeditorref01_Abs.f x = some (if x < 0 then -x else x) := by
  unfold imageeditorref01_Abs.f
  have e : ∀ z : Int, IntKind.u64.wrap z = z % 18446744073709551616 := fun z => by
    simp [IntKind.wrap_u64]
  by_cases h : x < 0
  · rw [if_pos h, if_pos h, e, e]
    congr 1
    omega
  · rw [if_neg h, if_neg h, e]
    congr 1
    omega

theorem reffloor_f (k : Nat) (a b : Int) (hk : 1 ≤ k) (hb : 0 < b) (ha : -4611686018427387904 ≤ a) (ha2 : a ≤ 4611686018427387904) : ∃ f, imageeditorref01_Floor.f k a b = some f ∧ b * f ≤ a ∧ a < b * f + b ∧ -4611686018427387904 ≤ f ∧ f ≤ 4611686018427387904 := by
  obtain ⟨h1, h2, h3⟩ := floor_end a b hb ha ha2
  obtain ⟨k, rfl⟩ : ∃ m, k = m + 1 := ⟨k - 1, by omega⟩
  unfold imageeditorref01_Floor.f
  rw [if_neg (by omega), if_neg (by omega)]
  simp only [imageeditorref01_Floor.j0]
  rw [if_neg (by simp), if_neg (by omega)]
  by_cases hm : Int.tmod a b = 0
  · rw [if_pos hm]
    exact ⟨_, rfl, h1 hm⟩
  · rw [if_neg hm]
    by_cases hs : a < 0
    · have := (h2 hm hs).1
      rw [if_pos (by simp [this]; omega)]
      exact ⟨_, rfl, (h2 hm hs).2⟩
    · have := (h3 hm (by omega)).1
      rw [if_neg (by simp; omega)]
      exact ⟨_, rfl, (h3 hm (by omega)).2⟩

theorem refdiv_f (k : Nat) (a b : Int) (hk : 1 ≤ k) (hb : 0 < b) (hb2 : b ≤ 4611686018427387904) (ha : -4611686018427387904 ≤ a) (ha2 : a ≤ 4611686018427387904) : imageeditorref01_Div.f k a b = some (rdiv a b) := by
  obtain ⟨f, hf, h1, h2, h3, h4⟩ := reffloor_f k a b hk hb ha ha2
  obtain ⟨k, rfl⟩ : ∃ m, k = m + 1 := ⟨k - 1, by omega⟩
  unfold imageeditorref01_Div.f
  rw [if_neg (by omega), hf]
  simp only [Option.bind_some]
  rw [if_neg (by omega)]
  simp only [imageeditorref01_Div.j0]
  have e : ∀ z : Int, IntKind.u64.wrap z = z % 18446744073709551616 := fun z => by
    simp [IntKind.wrap_u64]
  rw [if_neg (by simp), wr (b * f) (by omega) (by omega), wr (a - b * f) (by omega) (by omega), refabs_f _ (by omega) (by omega), refabs_f _ (by omega) (by omega)]
  simp only [Option.bind_some]
  rw [show (if a - b * f < 0 then -(a - b * f) else a - b * f) = a - b * f from if_neg (by omega), show (if b < 0 then -b else b) = b from if_neg (by omega), rdiv_floor a b f hb h1 h2, e]
  by_cases hc : b - (a - b * f) ≤ a - b * f
  · rw [if_pos (by omega), if_pos hc, wr (f + 1) (by omega) (by omega)]
  · rw [if_neg (by omega), if_neg hc]

/-! ### the reference's At -/
theorem refat_loop (l : List S42) (x : Int) (G : GoodCurve (X l) (Y l) l.length) : ∀ (d i k : Nat), i + d = l.length → d + 3 ≤ k → 0 < i → X l (i - 1) ≤ x →
    imageeditorref07_At.l0 k l x (i : Int) = some (let c := cnt (X l) x d i; if c = l.length then Y l (l.length - 1) else line (X l) (Y l) c x) := by
  have h16 := G.most
  have h02 := G.two
  intro d
  induction d with
  | zero =>
    intro i k hd hk h0 h1
    obtain ⟨k, rfl⟩ : ∃ m, k = m + 1 := ⟨k - 1, by omega⟩
    simp only [imageeditorref07_At.l0]
    rw [if_neg (by omega), wr_down l.length (by omega) (by omega), if_pos (by omega), if_pos (by omega), rdY]
    show _ = some (if i = l.length then Y l (l.length - 1) else line (X l) (Y l) i x)
    rw [if_pos (by omega)]
  | succ d ih =>
    intro i k hd hk h0 h1
    obtain ⟨k, rfl⟩ : ∃ m, k = m + 1 := ⟨k - 1, by omega⟩
    simp only [imageeditorref07_At.l0]
    rw [if_pos (by omega), if_pos (by omega), rdX]
    unfold cnt
    by_cases h2 : X l i ≤ x
    · rw [if_neg (by omega), if_pos h2, wr_up i (by omega)]
      exact ih (i + 1) k (by omega) (by omega) (by omega) (by simpa using h2)
    · rw [if_pos (by omega), if_neg h2, wr_down i (by omega) h0, if_pos (by omega), if_pos (by omega), rdX, rdY, rdY]
      show _ = some (if i = l.length then Y l (l.length - 1) else line (X l) (Y l) i x)
      rw [if_neg (by omega)]
      have a0 := G.y0 (i - 1) (by omega)
      have a1 := G.y1 (i - 1) (by omega)
      have a2 := G.y0 i (by omega)
      have a3 := G.y1 i (by omega)
      have b0 := G.x0 (i - 1) (by omega)
      have b3 := G.x1 i (by omega)
      have h6 := line_small (Y l i - Y l (i - 1)) (x - X l (i - 1)) (by omega) (by omega) (by omega) (by omega)
      have h7 := line_range G i x (by omega) (by omega) h1 (by omega)
      rw [wr (Y l i - Y l (i - 1)) (by omega) (by omega), wr (x - X l (i - 1)) (by omega) (by omega), wr (X l i - X l (i - 1)) (by omega) (by omega), wr _ (by omega) (by omega), refdiv_f _ _ _ (by omega) (by omega) (by omega) (by omega) (by omega)]
      simp only [Option.bind_some]
      unfold line at h7 ⊢
      rw [wr _ (by omega) (by omega)]

theorem refat_f (k : Nat) (l : List S42) (x : Int) (hk : 40 ≤ k) : imageeditorref07_At.f k l x = some (atv (X l) (Y l) l.length x) := by
  unfold imageeditorref07_At.f atv
  rw [refcheck_f k l hk, refunit_f]
  simp only [Option.bind_some]
  by_cases h : chk (X l) (Y l) l.length = 0
  · have G := (chk_ok _ _ _).1 h
    have h16 := G.most
    have h02 := G.two
    rw [if_pos h, if_pos h, if_pos (by omega), rdX0, rdY0, val_lim G]
    by_cases h1 : x ≤ X l 0
    · rw [if_pos h1, if_pos h1]
    · rw [if_neg h1, if_neg h1]
      exact refat_loop l x G (l.length - 1) 1 k (by omega) (by omega) (by omega) (by simpa using Int.le_of_lt (Int.not_le.1 h1))
  · rw [if_neg h, if_neg h]

theorem info3 : (Try.prog.info? 3).map (fun i => (i.zero, i.size, i.bytes)) = some (some (.int .i64 0), 1, 8) := by kernel_rfl
theorem step {w w1 w2 : World} (h : Below w.heap.size w w1) (k : Below w1.heap.size w1 w2) : Below w.heap.size w w2 := h.trans (k.mono h.size)

/-- The table's number i. -/
def cell (l : List S42) (n : Int) (i : Nat) : Int := val (X l) (Y l) l.length (rdiv ((i : Int) * 65535) (n - 1))
def tab (l : List S42) (n : Int) (i : Nat) : List Int := (List.range i).map (cell l n)
def mixed (l : List S42) (n : Int) (i d : Nat) : List Int := tab l n i ++ List.replicate d 0
theorem tab_len (l : List S42) (n : Int) (i : Nat) : (tab l n i).length = i := by simp [tab]
theorem tab_succ (l : List S42) (n : Int) (i : Nat) : tab l n (i + 1) = tab l n i ++ [cell l n i] := by simp [tab, List.range_succ]
theorem mixed_len (l : List S42) (n : Int) (i d : Nat) : (mixed l n i d).length = i + d := by rw [mixed, List.length_append, tab_len, List.length_replicate]
theorem mixed_set (l : List S42) (n : Int) (i d : Nat) : (mixed l n i (d + 1)).set i (cell l n i) = mixed l n (i + 1) d := by
  unfold mixed
  rw [List.set_append_right _ _ (by rw [tab_len]; omega), tab_len, Nat.sub_self, List.replicate_succ, List.set_cons_zero, tab_succ, List.append_assoc]
  rfl
theorem place (n : Int) (i : Nat) (h1 : n ≤ 256) (h2 : (i : Int) < n) (h3 : 2 ≤ n) : 0 ≤ rdiv ((i : Int) * 65535) (n - 1) ∧ rdiv ((i : Int) * 65535) (n - 1) ≤ 65535 := by
  refine rdiv_between _ _ 0 65535 (by omega) (by omega) ?_
  have : (i : Int) ≤ n - 1 := by omega
  omega

set_option maxRecDepth 100000 in
set_option maxHeartbeats 4000000 in
theorem table_good (A0 : Option Addr) (c0 : Nat) (l : List S42) (n : Nat) (w : World) (hr : Kd.C k42 w A0 l.length l) (hc : l.length ≤ c0) (G : GoodCurve (X l) (Y l) l.length) (n2 : 2 ≤ n) (n256 : n ≤ 256) :
    Calls Try.prog 37 #[.slice A0 l.length c0, .int .i64 n] w fun e w' => ∃ v : Value, e = .returned (.tuple #[v, .int .i64 0]) ∧ Kd.R (Kd.int .i64) 3 w' w.heap.size (fun _ => True) v (tab l n n) ∧ Below w.heap.size w w' := by
  have hR := Lib.hid hr
  have hch : curve_Check.f 300 l = some 0 := by rw [check_f 300 l (by omega), (chk_ok _ _ _).2 G]
  have HC := Aside0.mk hch
  have HG := Aside0.mk G
  have g1 : decide ((n : Int) < 2) = false := decide_eq_false (by omega)
  have g1' : decide (n < 2) = false := decide_eq_false (by omega)
  have g2 : decide (256 < (n : Int)) = false := decide_eq_false (by omega)
  have g2' : decide (256 < n) = false := decide_eq_false (by omega)
  clear hch G hr
  go_enter Try.func37, Try.ntmps37
  go_wp2_with fail
  refine (curve_Check.calls 300 _ _ l 0 _ hR.out hc HC.out).mono ?_
  rintro e w1 ⟨rfl, hb1⟩
  go_wp2_with ((with_reducible refine gate_dst (N := 21) rfl ?_); refine Kd.R_make (Kd.int .i64) _ 3 rfl (N := 21) rfl 32 _ _ rfl n rfl rfl Try.underlying32 (.int .i64 0) 8 info3 rfl (by decide) (by omega) 0 (ok := fun _ => True) (okp := fun _ => True) rfl (fun _ hk => hk) trivial (by omega) (by omega) (Below.refl _ _) (Nat.le_refl _) ?_; intro v155 w11 ho12 hb _ _; rw [Int.toNat_natCast] at ho12; obtain ⟨g, cap, ev, hg0, _, _⟩ := Kd.R_form ho12 (by simp; omega); simp only [List.length_replicate] at ev; subst ev)
  have HB : Aside0 (Below w.heap.size w w11) := ⟨step hb1 hb⟩
  have hg : w.heap.size ≤ g := Nat.le_trans hb1.size hg0
  have HO : Aside0 (Kd.R (Kd.int .i64) 3 w11 w.heap.size (fun _ => True) (.slice (some ⟨g, 0, none⟩) n cap) (mixed l n 0 n)) := ⟨by
    have := Kd.R_lower ho12 hb1.size
    simpa [mixed, tab] using this⟩
  clear hb1 hb ho12 hg0
  go_loopw [24] (fun a wr => ∃ i : Nat, a = .int .i64 i ∧ i ≤ n ∧ Aside0 (Kd.R (Kd.int .i64) 3 wr w.heap.size (fun _ => True) (.slice (some ⟨g, 0, none⟩) n cap) (mixed l n i (n - i))) ∧ Aside0 (Below w.heap.size w wr)) (fun a _ => n - (intOf a).toNat)
  case atStart => exact ⟨0, rfl, by omega, HO, HB⟩
  case round =>
    clear HO HB
    obtain ⟨i, rfl, hi, HO, HB⟩ := hrel
    by_cases hlt : i < n
    · have hp := place n i (by omega) (by omega) (by omega)
      obtain ⟨z, hz⟩ : ∃ z, z = rdiv ((i : Int) * 65535) ((n : Int) - 1) := ⟨_, rfl⟩
      have HD : Aside0 (num_Div.f 1 ((i : Int) * 65535) ((n : Int) - 1) = some z) := ⟨by rw [div_f 1 _ _ (by omega) (by omega) (by omega) (by omega) (by omega), hz]⟩
      obtain ⟨v, hv⟩ : ∃ v, v = cell l n i := ⟨_, rfl⟩
      have HV : Aside0 (curve_between.f 300 l z = some v) := ⟨by rw [between_f 300 l _ HG.out (by omega), hv, hz]; rfl⟩
      have HVV := Aside0.mk hv
      clear hp hz hv
      go_wp2_with fail
      refine (num_Div.calls 1 _ _ z _ HD.out).mono ?_
      rintro e w' ⟨rfl, ⟨nd, rfl⟩⟩
      go_wp2_with fail
      have HB1 : Aside0 (Below w.heap.size w (wr.drewN nd)) := ⟨by repeat (first | exact HB.out | apply pw_below_drewN | apply below_drew1)⟩
      refine (curve_between.calls 300 _ _ l z v _ (Kd.C_below hR.out HB1.out) hc HV.out).mono ?_
      rintro e w2 ⟨rfl, hb2⟩
      have HB2 : Aside0 (Below w.heap.size w w2) := ⟨step HB1.out hb2⟩
      have HO2 := Kd.R_below (Kd.R_drewN HO.out nd) hb2
      obtain ⟨hcell, hfroz⟩ := Kd.R_celln 0 HO2 (i : Int) (by omega) (by omega)
      have HP := Kd.R_putg HO2 (i : Int) v
      rw [Int.toNat_natCast] at hcell hfroz HP
      have e1 : n - i = (n - (i + 1)) + 1 := by omega
      rw [e1, HVV.out, mixed_set] at HP
      have HPP := Aside0.mk HP.1
      clear hb2 HO2 HP e1
      go_wp2
      go_roundw
      case rel => exact ⟨i + 1, by go_num, by omega, ⟨by rw [← HVV.out] at HPP; exact HPP.out⟩, ⟨below_set HB2.out hg⟩⟩
      case measure => simp [intOf]; omega
    · obtain rfl : i = n := by omega
      have HF : Aside0 (Kd.R (Kd.int .i64) 3 wr w.heap.size (fun _ => True) (.slice (some ⟨g, 0, none⟩) i cap) (tab l i i)) := ⟨by
        have := HO.out
        simpa [mixed] using this⟩
      clear HO
      go_wp2
      go_ret2
      exact ⟨_, rfl, HF.out, HB.out⟩

/-- What the table is, and the error. -/
def tabErr (l : List S42) (n : Int) : Int := if chk (X l) (Y l) l.length = 0 then (if n < 2 ∨ 256 < n then 2 else 0) else chk (X l) (Y l) l.length
def tabOf (l : List S42) (n : Int) : List Int := if tabErr l n = 0 then tab l n n.toNat else []

set_option maxRecDepth 100000 in
set_option maxHeartbeats 4000000 in
theorem table_calls (A0 : Option Addr) (c0 : Nat) (l : List S42) (n : Int) (w : World) (hr : Kd.C k42 w A0 l.length l) (hc : l.length ≤ c0) :
    Calls Try.prog 37 #[.slice A0 l.length c0, .int .i64 n] w fun e w' => ∃ v : Value, e = .returned (.tuple #[v, .int .i64 (tabErr l n)]) ∧ Kd.R (Kd.int .i64) 3 w' w.heap.size (fun _ => True) v (tabOf l n) ∧ Below w.heap.size w w' := by
  by_cases hg : chk (X l) (Y l) l.length = 0
  · by_cases hn : n < 2 ∨ 256 < n
    · have he : tabErr l n = 2 := by unfold tabErr; rw [if_pos hg, if_pos hn]
      have ht : tabOf l n = [] := by unfold tabOf; rw [he]; rfl
      rw [he, ht]
      have hR := Lib.hid hr
      have HC : Aside0 (curve_Check.f 300 l = some 0) := ⟨by rw [check_f 300 l (by omega), hg]⟩
      clear he ht hr hg
      by_cases h1 : n < 2
      · have g1 : decide (n < 2) = true := decide_eq_true h1
        clear h1 hn
        go_enter Try.func37, Try.ntmps37
        go_wp2_with fail
        refine (curve_Check.calls 300 _ _ l 0 _ hR.out hc HC.out).mono ?_
        rintro e w1 ⟨rfl, hb1⟩
        go_wp2
        go_ret2
        exact ⟨_, rfl, Kd.R_nil _ _ _ _ _, hb1⟩
      · have g1 : decide (n < 2) = false := decide_eq_false h1
        have g2 : decide (256 < n) = true := decide_eq_true (by omega)
        clear h1 hn
        go_enter Try.func37, Try.ntmps37
        go_wp2_with fail
        refine (curve_Check.calls 300 _ _ l 0 _ hR.out hc HC.out).mono ?_
        rintro e w1 ⟨rfl, hb1⟩
        go_wp2
        go_ret2
        exact ⟨_, rfl, Kd.R_nil _ _ _ _ _, hb1⟩
    · have he : tabErr l n = 0 := by unfold tabErr; rw [if_pos hg, if_neg hn]
      have ht : tabOf l n = tab l n n.toNat := by unfold tabOf; rw [if_pos he]
      rw [he, ht]
      obtain ⟨m, rfl⟩ : ∃ m : Nat, n = m := ⟨n.toNat, by omega⟩
      rw [Int.toNat_natCast]
      exact table_good A0 c0 l m w hr hc ((chk_ok _ _ _).1 hg) (by omega) (by omega)
  · have he : tabErr l n = chk (X l) (Y l) l.length := by unfold tabErr; rw [if_neg hg]
    have ht : tabOf l n = [] := by unfold tabOf; rw [he, if_neg hg]
    rw [he, ht]
    obtain ⟨t, htt⟩ : ∃ t, t = chk (X l) (Y l) l.length := ⟨_, rfl⟩
    rw [← htt]
    have hR := Lib.hid hr
    have HC : Aside0 (curve_Check.f 300 l = some t) := ⟨by rw [check_f 300 l (by omega), htt]⟩
    have hne : (t == 0) = false := by
      rw [beq_eq_false_iff_ne, htt]
      exact hg
    have hne2 : (t != 0) = true := by
      rw [bne, hne]
      rfl
    clear he ht hr hg htt
    go_enter Try.func37, Try.ntmps37
    go_wp2_with fail
    refine (curve_Check.calls 300 _ _ l t _ hR.out hc HC.out).mono ?_
    rintro e w1 ⟨rfl, hb1⟩
    go_wp2
    go_ret2
    exact ⟨_, rfl, Kd.R_nil _ _ _ _ _, hb1⟩

set_option maxRecDepth 100000 in
set_option maxHeartbeats 4000000 in
theorem reftable_good (A0 : Option Addr) (c0 : Nat) (l : List S42) (n : Nat) (w : World) (hr : Kd.C k42 w A0 l.length l) (hc : l.length ≤ c0) (G : GoodCurve (X l) (Y l) l.length) (n2 : 2 ≤ n) (n256 : n ≤ 256) :
    Calls Try.prog 38 #[.slice A0 l.length c0, .int .i64 n] w fun e w' => ∃ v : Value, e = .returned (.tuple #[v, .int .i64 0]) ∧ Kd.R (Kd.int .i64) 3 w' w.heap.size (fun _ => True) v (tab l n n) ∧ Below w.heap.size w w' := by
  have hR := Lib.hid hr
  have hch : imageeditorref07_Check.f 300 l = some 0 := by rw [refcheck_f 300 l (by omega), (chk_ok _ _ _).2 G]
  have HC := Aside0.mk hch
  have HG := Aside0.mk G
  have g1 : decide ((n : Int) < 2) = false := decide_eq_false (by omega)
  have g1' : decide (n < 2) = false := decide_eq_false (by omega)
  have g2 : decide (256 < (n : Int)) = false := decide_eq_false (by omega)
  have g2' : decide (256 < n) = false := decide_eq_false (by omega)
  clear hch G hr
  go_enter Try.func38, Try.ntmps38
  go_wp2_with fail
  refine (imageeditorref07_Check.calls 300 _ _ l 0 _ hR.out hc HC.out).mono ?_
  rintro e w1 ⟨rfl, ⟨nd, rfl⟩⟩
  have HB : Aside0 (Below w.heap.size w (w.drewN nd)) := ⟨by repeat (first | exact Below.refl _ _ | apply pw_below_drewN | apply below_drew1)⟩
  go_wp2_with ((with_reducible refine gate_dst (N := 20) rfl ?_); refine Kd.R_lit (Kd.int .i64) _ 3 ?hg (N := 20) ?hd (xs := ([] : List Int)) (inner := []) (ok := fun _ => True) (okp := fun _ => True) ?hr ?hp (fun _ hk => hk) trivial (Below.refl _ _) (Nat.le_refl _) (by simp) ?_; (case hd => rfl); (case hg => rfl); (case hr => first | (go_simp; done) | (go_simp; rfl)); (case hp => exact (Reps.none _ _)); intro v0 w6 ho7 hb _ _)
  have HB1 : Aside0 (Below w.heap.size w w6) := ⟨step HB.out hb⟩
  have HO : Aside0 (Kd.R (Kd.int .i64) 3 w6 w.heap.size (fun _ => True) v0 (tab l n 0)) := ⟨Kd.R_lower ho7 HB.out.size⟩
  clear HB hb ho7
  go_loopw [7, 8] (fun a b wr => ∃ i : Nat, b = .int .i64 i ∧ i ≤ n ∧ Aside0 (Kd.R (Kd.int .i64) 3 wr w.heap.size (fun _ => True) a (tab l n i)) ∧ Aside0 (Below w.heap.size w wr)) (fun _ b _ => n - (intOf b).toNat)
  case atStart => exact ⟨0, rfl, by omega, HO, HB1⟩
  case round =>
    rename_i a b
    clear HO HB1
    obtain ⟨i, rfl, hi, HO, HB⟩ := hrel
    by_cases hlt : i < n
    · have hp := place n i (by omega) (by omega) (by omega)
      obtain ⟨z, hz⟩ : ∃ z, z = rdiv ((i : Int) * 65535) ((n : Int) - 1) := ⟨_, rfl⟩
      have HD : Aside0 (imageeditorref01_Div.f 1 ((i : Int) * 65535) ((n : Int) - 1) = some z) := ⟨by rw [refdiv_f 1 _ _ (by omega) (by omega) (by omega) (by omega) (by omega), hz]⟩
      obtain ⟨v, hv⟩ : ∃ v, v = cell l n i := ⟨_, rfl⟩
      have HV : Aside0 (imageeditorref07_At.f 300 l z = some v) := ⟨by
        rw [refat_f 300 l _ (by omega), hv]
        unfold atv
        rw [if_pos ((chk_ok _ _ _).2 HG.out), hz, lim_id hp.1 hp.2]
        rfl⟩
      have HVV := Aside0.mk hv
      clear hp hz hv
      go_wp2_with fail
      refine (imageeditorref01_Div.calls 1 _ _ z _ HD.out).mono ?_
      rintro e w' ⟨rfl, ⟨nd, rfl⟩⟩
      go_wp2_with fail
      have HB1 : Aside0 (Below w.heap.size w (wr.drewN nd)) := ⟨by repeat (first | exact HB.out | apply pw_below_drewN | apply below_drew1)⟩
      refine (imageeditorref07_At.calls 300 _ _ l z v _ (Kd.C_below hR.out HB1.out) hc HV.out).mono ?_
      rintro e w2 ⟨rfl, hb2⟩
      have HB2 : Aside0 (Below w.heap.size w w2) := ⟨step HB1.out hb2⟩
      have HO2 := Aside0.mk (Kd.R_below (Kd.R_drewN HO.out nd) hb2)
      have hlen := tab_len l n i
      have HL := Aside0.mk hlen
      clear hb2 HB1 HB HO hlen
      go_wp2_with (at_builtin; refine Kd.R_append (Kd.int .i64) (w0 := w) w.heap.size rfl (.tmp 26) (.tmp 34) 32 3 (.int .i64 0) 8 rfl Try.underlying32 info3 rfl (by decide) (by omega) _ (tab l n i) v [.int .i64 v] (fun _ => True) (fun _ => False) rfl rfl ?aP (fun _ hk => hk.elim) ?aF ?aO ?aB ?aS ?aL ?_; (case aP => exact rfl); (case aF => exact fun _ _ => trivial); (case aO => exact HO2.out); (case aB => exact HB2.out); (case aS => exact HB2.out.size); (case aL => rw [HL.out]; omega); intro v1 w3 ho3 hb3 _ _)
      go_roundw
      case rel => exact ⟨i + 1, by go_num, by omega, ⟨by rw [tab_succ, ← HVV.out]; exact ho3⟩, ⟨hb3⟩⟩
      case measure => simp [intOf]; omega
    · obtain rfl : i = n := by omega
      go_wp2
      go_ret2
      exact ⟨_, rfl, HO.out, HB.out⟩
set_option maxRecDepth 100000 in
set_option maxHeartbeats 4000000 in
theorem reftable_calls (A0 : Option Addr) (c0 : Nat) (l : List S42) (n : Int) (w : World) (hr : Kd.C k42 w A0 l.length l) (hc : l.length ≤ c0) :
    Calls Try.prog 38 #[.slice A0 l.length c0, .int .i64 n] w fun e w' => ∃ v : Value, e = .returned (.tuple #[v, .int .i64 (tabErr l n)]) ∧ Kd.R (Kd.int .i64) 3 w' w.heap.size (fun _ => True) v (tabOf l n) ∧ Below w.heap.size w w' := by
  by_cases hg : chk (X l) (Y l) l.length = 0
  · by_cases hn : n < 2 ∨ 256 < n
    · have he : tabErr l n = 2 := by unfold tabErr; rw [if_pos hg, if_pos hn]
      have ht : tabOf l n = [] := by unfold tabOf; rw [he]; rfl
      rw [he, ht]
      have hR := Lib.hid hr
      have HC : Aside0 (imageeditorref07_Check.f 300 l = some 0) := ⟨by rw [refcheck_f 300 l (by omega), hg]⟩
      clear he ht hr hg
      by_cases h1 : n < 2
      · have g1 : decide (n < 2) = true := decide_eq_true h1
        clear h1 hn
        go_enter Try.func38, Try.ntmps38
        go_wp2_with fail
        refine (imageeditorref07_Check.calls 300 _ _ l 0 _ hR.out hc HC.out).mono ?_
        rintro e w1 ⟨rfl, ⟨nd, rfl⟩⟩
        have hb1 : Below w.heap.size w (w.drewN nd) := by repeat (first | exact Below.refl _ _ | apply pw_below_drewN | apply below_drew1)
        go_wp2
        go_ret2
        exact ⟨_, rfl, Kd.R_nil _ _ _ _ _, hb1⟩
      · have g1 : decide (n < 2) = false := decide_eq_false h1
        have g2 : decide (256 < n) = true := decide_eq_true (by omega)
        clear h1 hn
        go_enter Try.func38, Try.ntmps38
        go_wp2_with fail
        refine (imageeditorref07_Check.calls 300 _ _ l 0 _ hR.out hc HC.out).mono ?_
        rintro e w1 ⟨rfl, ⟨nd, rfl⟩⟩
        have hb1 : Below w.heap.size w (w.drewN nd) := by repeat (first | exact Below.refl _ _ | apply pw_below_drewN | apply below_drew1)
        go_wp2
        go_ret2
        exact ⟨_, rfl, Kd.R_nil _ _ _ _ _, hb1⟩
    · have he : tabErr l n = 0 := by unfold tabErr; rw [if_pos hg, if_neg hn]
      have ht : tabOf l n = tab l n n.toNat := by unfold tabOf; rw [if_pos he]
      rw [he, ht]
      obtain ⟨m, rfl⟩ : ∃ m : Nat, n = m := ⟨n.toNat, by omega⟩
      rw [Int.toNat_natCast]
      exact reftable_good A0 c0 l m w hr hc ((chk_ok _ _ _).1 hg) (by omega) (by omega)
  · have he : tabErr l n = chk (X l) (Y l) l.length := by unfold tabErr; rw [if_neg hg]
    have ht : tabOf l n = [] := by unfold tabOf; rw [he, if_neg hg]
    rw [he, ht]
    obtain ⟨t, htt⟩ : ∃ t, t = chk (X l) (Y l) l.length := ⟨_, rfl⟩
    rw [← htt]
    have hR := Lib.hid hr
    have HC : Aside0 (imageeditorref07_Check.f 300 l = some t) := ⟨by rw [refcheck_f 300 l (by omega), htt]⟩
    have hne : (t == 0) = false := by
      rw [beq_eq_false_iff_ne, htt]
      exact hg
    have hne2 : (t != 0) = true := by
      rw [bne, hne]
      rfl
    clear he ht hr hg htt
    go_enter Try.func38, Try.ntmps38
    go_wp2_with fail
    refine (imageeditorref07_Check.calls 300 _ _ l t _ hR.out hc HC.out).mono ?_
    rintro e w1 ⟨rfl, ⟨nd, rfl⟩⟩
    have hb1 : Below w.heap.size w (w.drewN nd) := by repeat (first | exact Below.refl _ _ | apply pw_below_drewN | apply below_drew1)
    go_wp2
    go_ret2
    exact ⟨_, rfl, Kd.R_nil _ _ _ _ _, hb1⟩


theorem kept {w1 w' : World} (hb : Below w1.heap.size w1 w') {a : Addr} {v : Value} (h : w1.cell? a = some v) : w'.cell? a = some v := (hb.cell (World.block_lt_of_cell? w1 _ h)).trans h
theorem tabOf_len (l : List S42) (n : Int) : (tabOf l n).length ≤ 256 := by
  unfold tabOf
  split
  · rename_i h
    rw [tab_len]
    unfold tabErr at h
    split at h
    · split at h <;> omega
    · contradiction
  · simp

set_option maxRecDepth 100000 in
set_option maxHeartbeats 4000000 in
theorem tables_calls (A0 : Option Addr) (c0 : Nat) (l : List S42) (n : Int) (w : World) (hr : Kd.C k42 w A0 l.length l) (hc : l.length ≤ c0) :
    Calls Try.prog 12 #[.slice A0 l.length c0, .int .i64 n] w fun e w' => e = .returned (.bool true) ∧ Below w.heap.size w w' := by
  have hR := Lib.hid hr
  obtain ⟨te, hte⟩ : ∃ t, t = tabErr l n := ⟨_, rfl⟩
  obtain ⟨tl, htl⟩ : ∃ t, t = tabOf l n := ⟨_, rfl⟩
  have hlen := tabOf_len l n
  rw [← htl] at hlen
  have C1 := fun W h => table_calls A0 c0 l n W h hc
  have C2 := fun W h => reftable_calls A0 c0 l n W h hc
  rw [← hte, ← htl] at C1 C2
  have K1 := Lib.hid C1
  have K2 := Lib.hid C2
  clear hr C1 C2 hte htl
  go_enter Try.func12, Try.ntmps12
  go_wp2_with fail
  refine (K1.out _ hR.out).mono ?_
  rintro e w1 ⟨v1, rfl, ho1, hb1⟩
  have HB1 := Aside0.mk hb1
  have HO1 := Aside0.mk ho1
  clear hb1 ho1
  obtain ⟨A1, c1, e1⟩ := Kd.R_slice HO1.out
  subst e1
  go_wp2_with fail
  refine (K2.out _ (Kd.C_below hR.out HB1.out)).mono ?_
  rintro e w2 ⟨v2, rfl, ho2, hb2⟩
  have HB2 : Aside0 (Below w.heap.size w w2) := ⟨step HB1.out hb2⟩
  have HC1 := Lib.hid (Kd.R_reads' (Kd.R_below HO1.out hb2)).2.2
  have HO2 := Aside0.mk ho2
  clear hb2 ho2 HO1 HB1
  obtain ⟨A2, c2, e2⟩ := Kd.R_slice HO2.out
  subst e2
  have HC2 := Lib.hid (Kd.R_reads' HO2.out).2.2
  clear HO2
  go_wp2
  go_loopw [9] (fun a wr => ∃ i : Nat, a = .int .i64 i ∧ i ≤ tl.length ∧ Aside0 (Below w2.heap.size w2 wr)) (fun a _ => tl.length - (intOf a).toNat)
  case atStart => exact ⟨0, rfl, by omega, ⟨Below.refl _ _⟩⟩
  case round =>
    obtain ⟨i, rfl, hi, HB⟩ := hrel
    by_cases hlt : i < tl.length
    · obtain ⟨ad1, e1, hx1⟩ := Kd.at_int HC1.out (i : Int) (by omega) (by omega)
      obtain ⟨ad2, e2, hx2⟩ := Kd.at_int HC2.out (i : Int) (by omega) (by omega)
      subst e1 e2
      rw [Int.toNat_natCast] at hx1 hx2
      have hr1 := kept HB.out hx1
      have hr2 := kept HB.out hx2
      obtain ⟨z, hz⟩ : ∃ z, z = rd tl (i : Int) := ⟨_, rfl⟩
      rw [← hz] at hr1 hr2
      clear hx1 hx2 hz
      go_wp2
      go_quiet (fail)
      go_wp2
      go_roundw
      case rel => exact ⟨i + 1, by go_num, by omega, ⟨by repeat (first | exact HB.out | apply pw_below_drewN | apply below_drew1)⟩⟩
      case measure => simp [intOf]; omega
    · go_wp2_with fail
      refine (imageeditorlaw07_example.calls 300 true _ (example_f 300 (by omega))).mono ?_
      rintro e w3 ⟨rfl, hb3⟩
      go_wp2
      go_ret
      exact ⟨rfl, step (step HB2.out HB.out) hb3⟩

end Go.Proofs.Ytmgpmpiondciiaa.Pure
