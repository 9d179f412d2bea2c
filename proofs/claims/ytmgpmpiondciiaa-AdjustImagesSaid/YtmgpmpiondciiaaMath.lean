/- Plain arithmetic of curves: rounded quotients, and what lies on lines between knots. No program in sight, no condition but those that each lemma names. -/
namespace Go.Proofs.Ytmgpmpiondciiaa.Plain

/-- The quotient, rounded to the nearest integer, halves up. -/
def rdiv (a b : Int) : Int := (2 * a + b) / (2 * b)

theorem rdiv_spec (a b : Int) (hb : 0 < b) : b * (2 * rdiv a b) - b ≤ 2 * a ∧ 2 * a < b * (2 * rdiv a b) + b := by
  unfold rdiv
  have h1 := Int.mul_ediv_add_emod (2 * a + b) (2 * b)
  have h2 := Int.emod_nonneg (2 * a + b) (show 2 * b ≠ 0 by omega)
  have h3 := Int.emod_lt_of_pos (2 * a + b) (show 0 < 2 * b by omega)
  have h4 : b * (2 * ((2 * a + b) / (2 * b))) = 2 * b * ((2 * a + b) / (2 * b)) := by
    rw [← Int.mul_assoc, Int.mul_comm b 2]
  omega

theorem mul_lt_cancel {b x y : Int} (hb : 0 < b) (h : b * x < b * y) : x < y := by
  rcases (by omega : x < y ∨ y ≤ x) with h1 | h1
  · exact h1
  · have := Int.mul_le_mul_of_nonneg_left h1 (Int.le_of_lt hb)
    omega

theorem rdiv_unique (a b r : Int) (hb : 0 < b) (h1 : b * (2 * r) - b ≤ 2 * a) (h2 : 2 * a < b * (2 * r) + b) : rdiv a b = r := by
  obtain ⟨h3, h4⟩ := rdiv_spec a b hb
  have k1 : b * (2 * r) < b * (2 * rdiv a b + 2) := by rw [Int.mul_add]; omega
  have k2 : b * (2 * rdiv a b) < b * (2 * r + 2) := by rw [Int.mul_add]; omega
  have := mul_lt_cancel hb k1
  have := mul_lt_cancel hb k2
  omega

/-- By the quotient that is rounded down. -/
theorem rdiv_floor (a b f : Int) (hb : 0 < b) (h1 : b * f ≤ a) (h2 : a < b * f + b) : rdiv a b = if b - (a - b * f) ≤ a - b * f then f + 1 else f := by
  split
  · apply rdiv_unique _ _ _ hb
    · have : b * (2 * (f + 1)) = 2 * (b * f) + 2 * b := by rw [Int.mul_left_comm, Int.mul_add, Int.mul_one, Int.mul_add]
      omega
    · have : b * (2 * (f + 1)) = 2 * (b * f) + 2 * b := by rw [Int.mul_left_comm, Int.mul_add, Int.mul_one, Int.mul_add]
      omega
  · apply rdiv_unique _ _ _ hb
    · have : b * (2 * f) = 2 * (b * f) := by rw [Int.mul_left_comm]
      omega
    · have : b * (2 * f) = 2 * (b * f) := by rw [Int.mul_left_comm]
      omega

theorem rdiv_mono (a a' b : Int) (hb : 0 < b) (h : a ≤ a') : rdiv a b ≤ rdiv a' b := by
  unfold rdiv
  exact Int.ediv_le_ediv (by omega) (by omega)

theorem rdiv_mul (m b : Int) (hb : 0 < b) : rdiv (m * b) b = m := by
  apply rdiv_unique _ _ _ hb
  · have : b * (2 * m) = 2 * (m * b) := by rw [Int.mul_left_comm, Int.mul_comm b m]
    omega
  · have : b * (2 * m) = 2 * (m * b) := by rw [Int.mul_left_comm, Int.mul_comm b m]
    omega

theorem rdiv_zero (b : Int) (hb : 0 < b) : rdiv 0 b = 0 := by
  have := rdiv_mul 0 b hb
  simpa using this

/-- Between the products' factors. -/
theorem rdiv_between (a b lo hi : Int) (hb : 0 < b) (h1 : lo * b ≤ a) (h2 : a ≤ hi * b) : lo ≤ rdiv a b ∧ rdiv a b ≤ hi := by
  have k1 := rdiv_mono _ _ b hb h1
  have k2 := rdiv_mono _ _ b hb h2
  rw [rdiv_mul _ _ hb] at k1 k2
  exact ⟨k1, k2⟩

/-- A number limited to unit values. -/
def lim (x : Int) : Int := if x < 0 then 0 else if 65535 < x then 65535 else x
theorem lim_range (x : Int) : 0 ≤ lim x ∧ lim x ≤ 65535 := by unfold lim; split <;> (try split) <;> omega
theorem lim_id {x : Int} (h0 : 0 ≤ x) (h1 : x ≤ 65535) : lim x = x := by unfold lim; split <;> (try split) <;> omega

/-! ### the error of a curve -/
def chkI (X Y : Nat → Int) : Nat → Nat → Int
  | 0, _ => 0
  | d + 1, i => if X i < 0 ∨ Y i < 0 ∨ 65535 < X i ∨ 65535 < Y i then 2 else if 0 < i ∧ X i ≤ X (i - 1) then 24 else chkI X Y d (i + 1)
def chk (X Y : Nat → Int) (n : Nat) : Int := if n < 2 then 1 else if 16 < n then 3 else chkI X Y n 0

structure GoodCurve (X Y : Nat → Int) (n : Nat) : Prop where
  two : 2 ≤ n
  most : n ≤ 16
  x0 : ∀ i, i < n → 0 ≤ X i
  x1 : ∀ i, i < n → X i ≤ 65535
  y0 : ∀ i, i < n → 0 ≤ Y i
  y1 : ∀ i, i < n → Y i ≤ 65535
  up : ∀ i, i + 1 < n → X i < X (i + 1)

theorem chkI_ok (X Y : Nat → Int) : ∀ d i, chkI X Y d i = 0 ↔ (∀ j, i ≤ j → j < i + d → 0 ≤ X j ∧ X j ≤ 65535 ∧ 0 ≤ Y j ∧ Y j ≤ 65535 ∧ (0 < j → X (j - 1) < X j)) := by
  intro d
  induction d with
  | zero => intro i; simp [chkI]; intro j h1 h2; omega
  | succ d ih =>
    intro i
    unfold chkI
    split
    · rename_i hb
      constructor
      · intro h; omega
      · intro h
        have := h i (Nat.le_refl _) (by omega)
        omega
    · rename_i hb
      split
      · rename_i hc
        constructor
        · intro h; omega
        · intro h
          have := (h i (Nat.le_refl _) (by omega)).2.2.2.2 hc.1
          omega
      · rename_i hc
        rw [ih]
        constructor
        · intro h j h1 h2
          rcases Nat.eq_or_lt_of_le h1 with rfl | h3
          · exact ⟨by omega, by omega, by omega, by omega, fun h4 => by omega⟩
          · exact h j h3 (by omega)
        · intro h j h1 h2
          exact h j (by omega) (by omega)

theorem chk_ok (X Y : Nat → Int) (n : Nat) : chk X Y n = 0 ↔ GoodCurve X Y n := by
  unfold chk
  split
  · constructor
    · intro h; omega
    · intro h; have := h.two; omega
  · split
    · constructor
      · intro h; omega
      · intro h; have := h.most; omega
    · rw [chkI_ok]
      constructor
      · intro h
        refine ⟨by omega, by omega, fun i hi => ?_, fun i hi => ?_, fun i hi => ?_, fun i hi => ?_, fun i hi => ?_⟩
        · exact (h i (by omega) (by omega)).1
        · exact (h i (by omega) (by omega)).2.1
        · exact (h i (by omega) (by omega)).2.2.1
        · exact (h i (by omega) (by omega)).2.2.2.1
        · have := (h (i + 1) (by omega) (by omega)).2.2.2.2 (by omega)
          simpa using this
      · intro h j _ hj
        refine ⟨h.x0 j (by omega), h.x1 j (by omega), h.y0 j (by omega), h.y1 j (by omega), fun h0 => ?_⟩
        have := h.up (j - 1) (by omega)
        rw [show j - 1 + 1 = j by omega] at this
        exact this

/-! ### the value of a curve -/
/-- How many knots from place i on, one after another, lie at most at x. -/
def cnt (X : Nat → Int) (x : Int) : Nat → Nat → Nat
  | 0, i => i
  | d + 1, i => if X i ≤ x then cnt X x d (i + 1) else i

theorem cnt_spec (X : Nat → Int) (x : Int) : ∀ d i, i ≤ cnt X x d i ∧ cnt X x d i ≤ i + d ∧ (∀ j, i ≤ j → j < cnt X x d i → X j ≤ x) ∧ (cnt X x d i < i + d → x < X (cnt X x d i)) := by
  intro d
  induction d with
  | zero => intro i; simp only [cnt]; exact ⟨by omega, by omega, fun j h1 h2 => by omega, fun h => by omega⟩
  | succ d ih =>
    intro i
    unfold cnt
    split
    · rename_i h
      obtain ⟨a, b, c, e⟩ := ih (i + 1)
      refine ⟨by omega, by omega, fun j h1 h2 => ?_, fun h3 => e (by omega)⟩
      rcases Nat.eq_or_lt_of_le h1 with rfl | h4
      · exact h
      · exact c j h4 h2
    · rename_i h
      exact ⟨by omega, by omega, fun j h1 h2 => by omega, fun _ => by omega⟩

/-- The value on the line that ends at knot i (from 1 on). -/
def line (X Y : Nat → Int) (i : Nat) (x : Int) : Int := Y (i - 1) + rdiv ((Y i - Y (i - 1)) * (x - X (i - 1))) (X i - X (i - 1))
def val (X Y : Nat → Int) (n : Nat) (x : Int) : Int :=
  let i := cnt X x n 0
  if i = 0 then Y 0 else if i = n then Y (n - 1) else line X Y i x
/-- The value of a curve, as the document says it. -/
def atv (X Y : Nat → Int) (n : Nat) (x : Int) : Int := if chk X Y n = 0 then val X Y n (lim x) else lim x

theorem GoodCurve.lt {X Y : Nat → Int} {n : Nat} (h : GoodCurve X Y n) : ∀ j i, i < j → j < n → X i < X j := by
  intro j
  induction j with
  | zero => intro i hi; omega
  | succ j ih =>
    intro i hi hj
    have h1 := h.up j hj
    rcases Nat.lt_or_ge i j with h2 | h2
    · have := ih i h2 (by omega); omega
    · have : i = j := by omega
      subst this; exact h1
theorem GoodCurve.le {X Y : Nat → Int} {n : Nat} (h : GoodCurve X Y n) (i j : Nat) (hij : i ≤ j) (hj : j < n) : X i ≤ X j := by
  rcases Nat.eq_or_lt_of_le hij with rfl | h2
  · exact Int.le_refl _
  · exact Int.le_of_lt (h.lt j i h2 hj)

/-- Where the count stands is told by the knots about it. -/
theorem cnt_eq {X : Nat → Int} {n : Nat} (x : Int) (i : Nat) (hi : i ≤ n) (h1 : ∀ j, j < i → X j ≤ x) (h2 : i < n → x < X i) : cnt X x n 0 = i := by
  obtain ⟨_, b, c, e⟩ := cnt_spec X x n 0
  rcases Nat.lt_trichotomy (cnt X x n 0) i with h3 | h3 | h3
  · have := e (by omega)
    have := h1 _ h3
    omega
  · exact h3
  · have := c i (by omega) h3
    have := h2 (by omega)
    omega

/-- A line's value lies between those of its two knots. -/
theorem line_between (y0 y1 dx t lo hi : Int) (hd : 0 < dx) (h0 : 0 ≤ t) (h1 : t ≤ dx) (a0 : lo ≤ y0) (a1 : lo ≤ y1) (b0 : y0 ≤ hi) (b1 : y1 ≤ hi) :
    lo ≤ y0 + rdiv ((y1 - y0) * t) dx ∧ y0 + rdiv ((y1 - y0) * t) dx ≤ hi := by
  have key : ∀ m : Int, (0 ≤ m → 0 ≤ m * t ∧ m * t ≤ m * dx) ∧ (m ≤ 0 → m * dx ≤ m * t ∧ m * t ≤ 0) := by
    intro m
    constructor
    · intro hm
      exact ⟨Int.mul_nonneg hm h0, Int.mul_le_mul_of_nonneg_left h1 hm⟩
    · intro hm
      exact ⟨Int.mul_le_mul_of_nonpos_left hm h1, Int.mul_nonpos_of_nonpos_of_nonneg hm h0⟩
  rcases Int.le_total 0 (y1 - y0) with hs | hs
  · obtain ⟨k1, k2⟩ := (key (y1 - y0)).1 hs
    have := rdiv_between _ dx 0 (y1 - y0) hd (by omega) k2
    omega
  · obtain ⟨k1, k2⟩ := (key (y1 - y0)).2 hs
    have := rdiv_between _ dx (y1 - y0) 0 hd k1 (by omega)
    omega

theorem val_between {X Y : Nat → Int} {n : Nat} (h : GoodCurve X Y n) (x lo hi : Int) (hlo : ∀ i, i < n → lo ≤ Y i) (hhi : ∀ i, i < n → Y i ≤ hi) : lo ≤ val X Y n x ∧ val X Y n x ≤ hi := by
  obtain ⟨_, b, c, e⟩ := cnt_spec X x n 0
  have h2 := h.two
  unfold val
  simp only
  split
  · exact ⟨hlo 0 (by omega), hhi 0 (by omega)⟩
  · split
    · exact ⟨hlo (n - 1) (by omega), hhi (n - 1) (by omega)⟩
    · rename_i h3 h4
      generalize hi' : cnt X x n 0 = i at *
      have h5 := c (i - 1) (by omega) (by omega)
      have h6 := e (by omega)
      have h7 := h.lt i (i - 1) (by omega) (by omega)
      exact line_between (Y (i - 1)) (Y i) (X i - X (i - 1)) (x - X (i - 1)) lo hi (by omega) (by omega) (by omega) (hlo _ (by omega)) (hlo _ (by omega)) (hhi _ (by omega)) (hhi _ (by omega))

theorem val_knot {X Y : Nat → Int} {n : Nat} (h : GoodCurve X Y n) (i : Nat) (hi : i < n) : val X Y n (X i) = Y i := by
  have hc : cnt X (X i) n 0 = i + 1 := cnt_eq (X i) (i + 1) (by omega) (fun j hj => h.le j i (by omega) hi) (fun h1 => h.up i h1)
  unfold val
  simp only [hc]
  rw [if_neg (by omega)]
  split
  · rename_i h1
    rw [show n - 1 = i by omega]
  · unfold line
    have h7 := h.up i (by omega)
    simp only [Nat.add_sub_cancel]
    rw [show X i - X i = 0 by omega, Int.mul_zero, rdiv_zero _ (by omega)]
    omega

/-- If no knot's value is less than the one before it, the curve does not decrease. -/
theorem val_mono {X Y : Nat → Int} {n : Nat} (h : GoodCurve X Y n) (hy : ∀ i, i + 1 < n → Y i ≤ Y (i + 1)) (x x' : Int) (hx : x ≤ x') : val X Y n x ≤ val X Y n x' := by
  have hyle : ∀ j i, i ≤ j → j < n → Y i ≤ Y j := by
    intro j
    induction j with
    | zero => intro i hi hj; rw [show i = 0 by omega]; exact Int.le_refl _
    | succ j ih =>
      intro i hi hj
      have h1 := hy j hj
      rcases Nat.lt_or_ge i (j + 1) with h2 | h2
      · have := ih i (by omega) (by omega); omega
      · rw [show i = j + 1 by omega]; exact Int.le_refl _
  have h2 := h.two
  obtain ⟨_, b, c, e⟩ := cnt_spec X x n 0
  obtain ⟨_, b', c', e'⟩ := cnt_spec X x' n 0
  have hle : cnt X x n 0 ≤ cnt X x' n 0 := by
    rcases Nat.lt_or_ge (cnt X x' n 0) (cnt X x n 0) with h3 | h3
    · have := c _ (by omega) h3
      have := e' (by omega)
      omega
    · exact h3
  have hrange : ∀ z i, cnt X z n 0 = i → 0 < i → i < n → Y (i - 1) ≤ line X Y i z ∧ line X Y i z ≤ Y i := by
    intro z i hz h0 hn
    obtain ⟨_, _, cz, ez⟩ := cnt_spec X z n 0
    rw [hz] at cz ez
    have h5 := cz (i - 1) (by omega) (by omega)
    have h6 := ez (by omega)
    have h7 := h.lt i (i - 1) (by omega) (by omega)
    have h8 := hyle i (i - 1) (by omega) hn
    exact line_between (Y (i - 1)) (Y i) (X i - X (i - 1)) (z - X (i - 1)) (Y (i - 1)) (Y i) (by omega) (by omega) (by omega) (by omega) (by omega) (by omega) (by omega)
  unfold val
  simp only
  generalize hi' : cnt X x n 0 = i at *
  generalize hj' : cnt X x' n 0 = j at *
  by_cases hi0 : i = 0
  · rw [if_pos hi0]
    by_cases hj0 : j = 0
    · rw [if_pos hj0]; exact Int.le_refl _
    · rw [if_neg hj0]
      by_cases hjn : j = n
      · rw [if_pos hjn]; exact hyle _ _ (by omega) (by omega)
      · rw [if_neg hjn]
        have := (hrange x' j hj' (by omega) (by omega)).1
        have := hyle (j - 1) 0 (by omega) (by omega)
        omega
  · rw [if_neg hi0, if_neg (by omega : ¬ j = 0)]
    by_cases hin : i = n
    · rw [if_pos hin, if_pos (by omega : j = n)]; exact Int.le_refl _
    · rw [if_neg hin]
      have r1 := hrange x i hi' (by omega) (by omega)
      by_cases hjn : j = n
      · rw [if_pos hjn]
        have := hyle (n - 1) i (by omega) (by omega)
        omega
      · rw [if_neg hjn]
        have r2 := hrange x' j hj' (by omega) (by omega)
        rcases Nat.eq_or_lt_of_le hle with h3 | h3
        · subst h3
          unfold line
          have h7 := h.lt i (i - 1) (by omega) (by omega)
          have h8 := hy (i - 1) (by omega)
          rw [show i - 1 + 1 = i by omega] at h8
          have := rdiv_mono ((Y i - Y (i - 1)) * (x - X (i - 1))) ((Y i - Y (i - 1)) * (x' - X (i - 1))) (X i - X (i - 1)) (by omega) (Int.mul_le_mul_of_nonneg_left (by omega) (by omega))
          omega
        · have := hyle (j - 1) i (by omega) (by omega)
          omega

/-- The document's way to the value of a good curve, for any number. -/
theorem val_lim {X Y : Nat → Int} {n : Nat} (h : GoodCurve X Y n) (x : Int) : val X Y n (lim x) = if x ≤ X 0 then Y 0 else (let i := cnt X x (n - 1) 1; if i = n then Y (n - 1) else line X Y i x) := by
  have h2 := h.two
  have hx0 := h.x0 0 (by omega)
  have hxn := h.x1 (n - 1) (by omega)
  split
  · rename_i hx
    rcases (by omega : x < X 0 ∨ X 0 ≤ x) with h3 | h3
    · have hl : lim x < X 0 ∨ lim x = X 0 := by unfold lim; split <;> (try split) <;> omega
      rcases hl with hl | hl
      · unfold val
        rw [cnt_eq (lim x) 0 (by omega) (fun j hj => by omega) (fun _ => hl)]
        simp
      · rw [hl]; exact val_knot h 0 (by omega)
    · have hx1 := h.x1 0 (by omega)
      have : lim x = X 0 := by rw [show x = X 0 by omega, lim_id hx0 hx1]
      rw [this]; exact val_knot h 0 (by omega)
  · rename_i hx
    obtain ⟨a, b, c, e⟩ := cnt_spec X x (n - 1) 1
    generalize hi' : cnt X x (n - 1) 1 = i at *
    rcases Nat.lt_or_ge i n with h3 | h3
    · have h4 := e (by omega)
      have h5 := h.x1 i h3
      have hl : lim x = x := lim_id (by omega) (by omega)
      unfold val
      rw [hl, cnt_eq x i (by omega) (fun j hj => by
        rcases Nat.eq_zero_or_pos j with rfl | h6
        · omega
        · exact c j h6 hj) (fun _ => h4)]
      simp only
      rw [if_neg (by omega)]
    · have hin : i = n := by omega
      simp only
      rw [if_pos hin]
      unfold val
      have hl : ∀ j, j < n → X j ≤ lim x := by
        intro j hj
        have h5 := h.x1 j hj
        have h6 : X j ≤ x := by
          rcases Nat.eq_zero_or_pos j with rfl | h6
          · omega
          · exact c j h6 (by omega)
        have := h.x0 j hj
        unfold lim; split <;> (try split) <;> omega
      rw [cnt_eq (lim x) n (by omega) hl (fun h => by omega)]
      simp only
      rw [if_neg (by omega)]
      simp
end Go.Proofs.Ytmgpmpiondciiaa.Plain
