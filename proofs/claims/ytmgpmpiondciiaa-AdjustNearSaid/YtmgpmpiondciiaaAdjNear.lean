/- The plain law of AdjustNear: hue, saturation and lightness lead back to nearly the same pixel. No condition but those of each theorem. -/
import Derived.Test.YtmgpmpiondciiaaAdjHue
namespace Go.Proofs.Ytmgpmpiondciiaa.Adj
open Go.RowKit Go.Proofs.Ytmgpmpiondciiaa.PAdjustImages Go.Proofs.YtmgpmpiondciiaaW.PrintWords Go.Proofs.YtmgpmpiondciiaaW.PrintMore Go.Proofs.Ytmgpmpiondciiaa.Plain
theorem half_spec (a : Int) : 2 * rdiv a 2 = a ∨ 2 * rdiv a 2 = a + 1 := by
  unfold rdiv
  omega
theorem sat_err (M m C S L c w1 w2 : Int) (hC : C = M - m) (m0 : 0 ≤ m) (M1 : M ≤ 65535) (C1 : 1 ≤ C) (hL : 2 * L = M + m ∨ 2 * L = M + m + 1) (h1 : w1 = wide (M + m - 65535)) (h2 : w2 = wide (2 * L - 65535))
    (hS : S = rdiv (C * 65535) w1) (hc : c = rdiv (w2 * S) 65535) : C - 2 ≤ c ∧ c ≤ C + 2 := by
  have k1 : C ≤ w1 ∧ w1 ≤ 65535 := by rw [h1]; unfold wide mx; split <;> omega
  have k2 : w2 = w1 ∨ w2 = w1 + 1 ∨ w2 = w1 - 1 := by
    rw [h1, h2]
    unfold wide mx
    rcases hL with e | e <;> rw [e] <;> (repeat' split) <;> omega
  have s0 := rdiv_between (C * 65535) w1 0 65535 (by omega) (by omega) (by omega)
  rw [← hS] at s0
  have s1 := rdiv_spec (C * 65535) w1 (by omega)
  rw [← hS] at s1
  have s2 := rdiv_spec (w2 * S) 65535 (by omega)
  rw [← hc] at s2
  have e1 : w1 * (2 * S) = 2 * (w1 * S) := Int.mul_left_comm w1 2 S
  rw [e1] at s1
  have e2 : w2 * S = w1 * S ∨ w2 * S = w1 * S + S ∨ w2 * S = w1 * S - S := by
    rcases k2 with e | e | e
    · left; rw [e]
    · right; left; rw [e, Int.add_mul, Int.one_mul]
    · right; right; rw [e, Int.sub_mul, Int.one_mul]
  generalize w1 * S = P at s1 e2
  generalize w2 * S = Q at s2 e2
  omega
theorem hue_err (T C : Int) (C1 : 1 ≤ C) (t0 : -C ≤ T) (t1 : T ≤ 5 * C) : ∃ T', (T' = T ∨ T' = T + 6 * C) ∧ 12 * (C * (rdiv (65536 * T) (6 * C) % 65536)) - 6 * C ≤ 131072 * T' ∧ 131072 * T' ≤ 12 * (C * (rdiv (65536 * T) (6 * C) % 65536)) + 6 * C := by
  have b := rdiv_between (65536 * T) (6 * C) (-10923) 54614 (by omega) (by omega) (by omega)
  have s := rdiv_spec (65536 * T) (6 * C) (by omega)
  generalize rdiv (65536 * T) (6 * C) = H at b s
  have e : 6 * C * (2 * H) = 12 * (C * H) := by
    rw [Int.mul_assoc, Int.mul_left_comm C 2 H, ← Int.mul_assoc]
    rfl
  rw [e] at s
  by_cases h : 0 ≤ H
  · have hm : H % 65536 = H := by omega
    rw [hm]
    exact ⟨T, .inl rfl, by omega, by omega⟩
  · have hm : H % 65536 = H + 65536 := by omega
    rw [hm, Int.mul_add]
    generalize C * H = K at s ⊢
    exact ⟨T + 6 * C, .inr rfl, by omega, by omega⟩
theorem mid_err (C c h q f x T' : Int) (C1 : 1 ≤ C) (C2 : C ≤ 65535) (c0 : C - 2 ≤ c) (c1 : c ≤ C + 2) (h0 : 0 ≤ h) (h1 : h < 65536) (hq : q = 6 * h / 65536) (hf : f = if q % 2 = 1 then 65536 - (6 * h - 65536 * q) else 6 * h - 65536 * q) (hx : x = rdiv (c * f) 65536)
    (t0 : 12 * (C * h) - 6 * C ≤ 131072 * T') (t1 : 131072 * T' ≤ 12 * (C * h) + 6 * C) :
    (q % 2 = 0 → x - 5 ≤ T' - q * C ∧ T' - q * C ≤ x + 5) ∧ (q % 2 = 1 → x - 5 ≤ (q + 1) * C - T' ∧ (q + 1) * C - T' ≤ x + 5) ∧ -2 ≤ T' - q * C ∧ T' - q * C ≤ C + 2 ∧ 0 ≤ q ∧ q ≤ 5 := by
  have hq0 : 0 ≤ q ∧ q ≤ 5 ∧ 0 ≤ 6 * h - 65536 * q ∧ 6 * h - 65536 * q ≤ 65535 := by omega
  obtain ⟨q0, q5, g0, g1⟩ := hq0
  have hff : 0 ≤ f ∧ f ≤ 65536 := by rw [hf]; split <;> omega
  have s := rdiv_spec (c * f) 65536 (by omega)
  rw [← hx] at s
  have e0 : c * f = C * f + (c - C) * f := by rw [← Int.add_mul]; congr 1; omega
  have d1 : (c - C) * f ≤ 2 * f := Int.mul_le_mul_of_nonneg_right (by omega) hff.1
  have d2 : -2 * f ≤ (c - C) * f := Int.mul_le_mul_of_nonneg_right (by omega) hff.1
  have e1 : C * (6 * h - 65536 * q) = 6 * (C * h) - 65536 * (q * C) := by
    rw [Int.mul_sub, Int.mul_left_comm C 6 h, Int.mul_left_comm C 65536 q, Int.mul_comm C q]
  have g2 : 0 ≤ C * (6 * h - 65536 * q) := Int.mul_nonneg (by omega) g0
  have g3 : C * (6 * h - 65536 * q) ≤ C * 65535 := Int.mul_le_mul_of_nonneg_left g1 (by omega)
  have e2 : (q + 1) * C = q * C + C := by rw [Int.add_mul, Int.one_mul]
  rw [e1] at g2 g3
  rw [e2]
  by_cases hp : q % 2 = 1
  · rw [if_pos hp] at hf
    have e3 : C * f = 65536 * C - (6 * (C * h) - 65536 * (q * C)) := by rw [hf, Int.mul_sub, e1, Int.mul_comm C 65536]
    rw [e0, e3] at s
    generalize (c - C) * f = D at *
    generalize C * h = K at *
    generalize q * C = Z at *
    clear hx hf hq e0 e1 e2 e3
    refine ⟨fun h => by omega, fun _ => by omega, by omega, by omega, q0, q5⟩
  · rw [if_neg hp] at hf
    have e3 : C * f = 6 * (C * h) - 65536 * (q * C) := by rw [hf, e1]
    rw [e0, e3] at s
    generalize (c - C) * f = D at *
    generalize C * h = K at *
    generalize q * C = Z at *
    clear hx hf hq e0 e1 e2 e3
    refine ⟨fun _ => by omega, fun h => absurd h hp, by omega, by omega, q0, q5⟩
theorem lim_near (y v d : Int) (v0 : 0 ≤ v) (v1 : v ≤ 65535) (h0 : v - d ≤ y) (h1 : y ≤ v + d) (hd : 0 ≤ d) : v - d ≤ lim y ∧ lim y ≤ v + d := by
  unfold lim
  repeat' split
  all_goals omega
theorem turn_bounds (r g b : Int) : -(most r g b - least r g b) ≤ turnV r g b ∧ turnV r g b ≤ 5 * (most r g b - least r g b) := by
  obtain ⟨m1, m2, m3, m4⟩ := most_spec r g b
  obtain ⟨n1, n2, n3, n4⟩ := least_spec r g b
  unfold turnV
  generalize most r g b = M at *
  generalize least r g b = m at *
  repeat' split
  all_goals omega
/-- The three channels that a sector gives, ahead of the shift and the limit. -/
theorem sector_near (r g b M m C T T' q c x n : Int) (hC : C = M - m) (C1 : 1 ≤ C) (m1 : r ≤ M) (m2 : g ≤ M) (m3 : b ≤ M) (n1 : m ≤ r) (n2 : m ≤ g) (n3 : m ≤ b) (m4 : M = r ∨ M = g ∨ M = b) (n4 : m = r ∨ m = g ∨ m = b)
    (hT : T = if M = r then g - b else if M = g then 2 * C + b - r else 4 * C + r - g) (hT' : T' = T ∨ T' = T + 6 * C) (b0 : m - 1 ≤ n) (b1 : n ≤ m + 2) (e0 : M - 1 ≤ c + n) (e1 : c + n ≤ M + 2) (x0 : 0 ≤ x) (x1 : x ≤ c)
    (k0 : q % 2 = 0 → x - 5 ≤ T' - q * C ∧ T' - q * C ≤ x + 5) (k1 : q % 2 = 1 → x - 5 ≤ (q + 1) * C - T' ∧ (q + 1) * C - T' ≤ x + 5) (l0 : -2 ≤ T' - q * C) (l1 : T' - q * C ≤ C + 2) (q0 : 0 ≤ q) (q5 : q ≤ 5) :
    (r - 8 ≤ (pick q c x).1 + n ∧ (pick q c x).1 + n ≤ r + 8) ∧ (g - 8 ≤ (pick q c x).2.1 + n ∧ (pick q c x).2.1 + n ≤ g + 8) ∧ (b - 8 ≤ (pick q c x).2.2 + n ∧ (pick q c x).2.2 + n ≤ b + 8) := by
  have hq : q = 0 ∨ q = 1 ∨ q = 2 ∨ q = 3 ∨ q = 4 ∨ q = 5 := by omega
  have ht : (M = r ∧ T = g - b) ∨ (M = g ∧ T = 2 * C + b - r) ∨ (M = b ∧ T = 4 * C + r - g) := by
    by_cases h1 : M = r
    · rw [if_pos h1] at hT
      exact .inl ⟨h1, hT⟩
    · rw [if_neg h1] at hT
      by_cases h2 : M = g
      · rw [if_pos h2] at hT
        exact .inr (.inl ⟨h2, hT⟩)
      · rw [if_neg h2] at hT
        exact .inr (.inr ⟨by omega, hT⟩)
  clear hT m4
  rcases hq with rfl | rfl | rfl | rfl | rfl | rfl
  · have k := k0 rfl
    clear k0 k1
    show (r - 8 ≤ c + n ∧ c + n ≤ r + 8) ∧ (g - 8 ≤ x + n ∧ x + n ≤ g + 8) ∧ (b - 8 ≤ 0 + n ∧ 0 + n ≤ b + 8)
    rcases ht with ⟨h1, h2⟩ | ⟨h1, h2⟩ | ⟨h1, h2⟩ <;> rcases hT' with h3 | h3 <;> omega
  · have k := k1 rfl
    clear k0 k1
    show (r - 8 ≤ x + n ∧ x + n ≤ r + 8) ∧ (g - 8 ≤ c + n ∧ c + n ≤ g + 8) ∧ (b - 8 ≤ 0 + n ∧ 0 + n ≤ b + 8)
    rcases ht with ⟨h1, h2⟩ | ⟨h1, h2⟩ | ⟨h1, h2⟩ <;> rcases hT' with h3 | h3 <;> omega
  · have k := k0 rfl
    clear k0 k1
    show (r - 8 ≤ 0 + n ∧ 0 + n ≤ r + 8) ∧ (g - 8 ≤ c + n ∧ c + n ≤ g + 8) ∧ (b - 8 ≤ x + n ∧ x + n ≤ b + 8)
    rcases ht with ⟨h1, h2⟩ | ⟨h1, h2⟩ | ⟨h1, h2⟩ <;> rcases hT' with h3 | h3 <;> omega
  · have k := k1 rfl
    clear k0 k1
    show (r - 8 ≤ 0 + n ∧ 0 + n ≤ r + 8) ∧ (g - 8 ≤ x + n ∧ x + n ≤ g + 8) ∧ (b - 8 ≤ c + n ∧ c + n ≤ b + 8)
    rcases ht with ⟨h1, h2⟩ | ⟨h1, h2⟩ | ⟨h1, h2⟩ <;> rcases hT' with h3 | h3 <;> omega
  · have k := k0 rfl
    clear k0 k1
    show (r - 8 ≤ x + n ∧ x + n ≤ r + 8) ∧ (g - 8 ≤ 0 + n ∧ 0 + n ≤ g + 8) ∧ (b - 8 ≤ c + n ∧ c + n ≤ b + 8)
    rcases ht with ⟨h1, h2⟩ | ⟨h1, h2⟩ | ⟨h1, h2⟩ <;> rcases hT' with h3 | h3 <;> omega
  · have k := k1 rfl
    clear k0 k1
    show (r - 8 ≤ c + n ∧ c + n ≤ r + 8) ∧ (g - 8 ≤ 0 + n ∧ 0 + n ≤ g + 8) ∧ (b - 8 ≤ x + n ∧ x + n ≤ b + 8)
    rcases ht with ⟨h1, h2⟩ | ⟨h1, h2⟩ | ⟨h1, h2⟩ <;> rcases hT' with h3 | h3 <;> omega
theorem near_rgb (r g b a : Int) (V : Vld r g b a) (hne : most r g b - least r g b ≠ 0) :
    (r - 8 ≤ fromR (hueV r g b) (satV r g b) (ligV r g b) ∧ fromR (hueV r g b) (satV r g b) (ligV r g b) ≤ r + 8) ∧ (g - 8 ≤ fromG (hueV r g b) (satV r g b) (ligV r g b) ∧ fromG (hueV r g b) (satV r g b) (ligV r g b) ≤ g + 8) ∧ (b - 8 ≤ fromB (hueV r g b) (satV r g b) (ligV r g b) ∧ fromB (hueV r g b) (satV r g b) (ligV r g b) ≤ b + 8) := by
  obtain ⟨h0, h1, s0, s1, l0, l1⟩ := hsl_range r g b a V
  obtain ⟨r0, r1, g0, g1, b0, b1, _, _⟩ := V
  obtain ⟨m1, m2, m3, m4⟩ := most_spec r g b
  obtain ⟨n1, n2, n3, n4⟩ := least_spec r g b
  have tb := turn_bounds r g b
  have C1 : 1 ≤ most r g b - least r g b := by omega
  obtain ⟨T', hT', t0, t1⟩ := hue_err (turnV r g b) (most r g b - least r g b) C1 tb.1 tb.2
  have eh : hueV r g b = rdiv (65536 * turnV r g b) (6 * (most r g b - least r g b)) % 65536 := by unfold hueV; rw [if_neg hne]
  have es : satV r g b = rdiv ((most r g b - least r g b) * 65535) (wide (most r g b + least r g b - 65535)) := by unfold satV; rw [if_neg hne]
  have hL : 2 * ligV r g b = most r g b + least r g b ∨ 2 * ligV r g b = most r g b + least r g b + 1 := half_spec _
  rw [← eh] at t0 t1
  have hc := sat_err (most r g b) (least r g b) (most r g b - least r g b) (satV r g b) (ligV r g b) (chromaV (satV r g b) (ligV r g b)) _ _ rfl (by omega) (by omega) C1 hL rfl rfl es rfl
  have hm := mid_err (most r g b - least r g b) (chromaV (satV r g b) (ligV r g b)) (hueV r g b) _ _ (secV (chromaV (satV r g b) (ligV r g b)) (hueV r g b)) T' C1 (by omega) hc.1 hc.2 h0 (by omega) rfl rfl rfl t0 t1
  have hcr := chroma_range (satV r g b) (ligV r g b) s0 s1 l0 l1
  have hf : 0 ≤ fallV (hueV r g b) ∧ fallV (hueV r g b) ≤ 65536 := by unfold fallV; split <;> omega
  have hx := part_range (chromaV (satV r g b) (ligV r g b)) (fallV (hueV r g b)) hcr.2.2.1 hcr.2.2.2.1 hf.1 hf.2
  have hn : 2 * baseV (chromaV (satV r g b) (ligV r g b)) (ligV r g b) = 2 * ligV r g b - chromaV (satV r g b) (ligV r g b) ∨ 2 * baseV (chromaV (satV r g b) (ligV r g b)) (ligV r g b) = 2 * ligV r g b - chromaV (satV r g b) (ligV r g b) + 1 := half_spec _
  have key := sector_near r g b (most r g b) (least r g b) (most r g b - least r g b) (turnV r g b) T' (6 * hueV r g b / 65536) (chromaV (satV r g b) (ligV r g b)) (secV (chromaV (satV r g b) (ligV r g b)) (hueV r g b)) (baseV (chromaV (satV r g b) (ligV r g b)) (ligV r g b))
    rfl C1 m1 m2 m3 n1 n2 n3 m4 n4 rfl hT' (by omega) (by omega) (by omega) (by omega) hx.2.2.1 hx.2.2.2 hm.1 hm.2.1 hm.2.2.1 hm.2.2.2.1 hm.2.2.2.2.1 hm.2.2.2.2.2
  have ehm : hueV r g b % 65536 = hueV r g b := by omega
  unfold fromR fromG fromB rgbV
  rw [lim_id s0 s1, lim_id l0 l1, ehm]
  exact ⟨lim_near _ r 8 r0 r1 key.1.1 key.1.2 (by decide), lim_near _ g 8 g0 g1 key.2.1.1 key.2.1.2 (by decide), lim_near _ b 8 b0 b1 key.2.2.1 key.2.2.2 (by decide)⟩
/-- A gray pixel comes back as it was. -/
theorem near_gray (v : Int) (v0 : 0 ≤ v) (v1 : v ≤ 65535) : fromR (hueV v v v) (satV v v v) (ligV v v v) = v ∧ fromG (hueV v v v) (satV v v v) (ligV v v v) = v ∧ fromB (hueV v v v) (satV v v v) (ligV v v v) = v := by
  have em : most v v v = v := by unfold most mx; simp
  have en : least v v v = v := by unfold least mn; simp
  have e1 : hueV v v v = 0 := by unfold hueV; rw [em, en, if_pos (by omega)]
  have e2 : satV v v v = 0 := by unfold satV; rw [em, en, if_pos (by omega)]
  have e3 : ligV v v v = v := by unfold ligV rdiv; rw [em, en]; omega
  have e4 : chromaV 0 v = 0 := by unfold chromaV; rw [Int.mul_zero]; decide
  have e5 : secV 0 0 = 0 := by decide
  have e6 : baseV 0 v = v := by unfold baseV rdiv; omega
  rw [e1, e2, e3]
  unfold fromR fromG fromB rgbV
  rw [show lim 0 = 0 from by decide, lim_id v0 v1, show (0 : Int) % 65536 = 0 from rfl, e4, e5, e6]
  show lim (0 + v) = v ∧ lim (0 + v) = v ∧ lim (0 + v) = v
  rw [Int.zero_add, lim_id v0 v1]
  exact ⟨rfl, rfl, rfl⟩
end Go.Proofs.Ytmgpmpiondciiaa.Adj
