/- What adjust.Pixel answers without an error: a valid pixel with the alpha of the pixel. No condition but those of each theorem. -/
import Derived.Test.YtmgpmpiondciiaaAdjAll
namespace Go.Proofs.Ytmgpmpiondciiaa.Adj
open Go.RowKit Go.Proofs.Ytmgpmpiondciiaa.PAdjustImages Go.Proofs.YtmgpmpiondciiaaW.PrintWords Go.Proofs.YtmgpmpiondciiaaW.PrintMore Go.Proofs.Ytmgpmpiondciiaa.Plain
abbrev VldP (x : S45) : Prop := Vld x.f0 x.f1 x.f2 x.f3
theorem mix_vld (ar ag ab aa br bg bb ba t : Int) (U : Vld ar ag ab aa) (V : Vld br bg bb ba) (t0 : 0 ≤ t) (t1 : t ≤ 65535) : VldP (pxOf (mixPix ar ag ab aa br bg bb ba t)) := by
  obtain ⟨r0, r1, g0, g1, b0, b1, a0, a1⟩ := U
  obtain ⟨R0, R1, G0, G1, B0, B1, A0, A1⟩ := V
  have hb := lerp_bounds aa ba t a0 a1 A0 A1 t0 t1
  unfold mixPix
  by_cases h : mixA aa ba t = 0
  · rw [if_pos h]
    exact ⟨by decide, by decide, by decide, by decide, by decide, by decide, by decide, by decide⟩
  · rw [if_neg h]
    have d0 : 0 < aa * (65535 - t) + ba * t := by
      rcases (by omega : aa * (65535 - t) + ba * t = 0 ∨ 0 < aa * (65535 - t) + ba * t) with e | e
      · exact absurd (by unfold mixA; rw [e]; exact rdiv_zero 65535 (by omega)) h
      · exact e
    have m := fun x y x0 x1 y0 y1 => mean_range x y (aa * (65535 - t)) (ba * t) _ x0 x1 y0 y1 (by omega) (by omega) (by omega) rfl d0
    have ha : 0 ≤ mixA aa ba t ∧ mixA aa ba t ≤ 65535 := rdiv_between _ _ 0 65535 (by omega) (by omega) (by omega)
    exact ⟨(m ar br r0 r1 R0 R1).1, (m ar br r0 r1 R0 R1).2, (m ag bg g0 g1 G0 G1).1, (m ag bg g0 g1 G0 G1).2, (m ab bb b0 b1 B0 B1).1, (m ab bb b0 b1 B0 B1).2, ha.1, ha.2⟩
theorem mapAt_vld (s : List S74) (t : Int) (G : GoodStops s) (t1 : t ≤ 65535) : ∀ k i, i + k = s.length → 1 ≤ i → (st s (i - 1)).f0 ≤ t → VldP (pxOf (mapAt s t k i))
  | 0, _, _, _, _ => G.col (s.length - 1) (by have := G.one; omega)
  | k + 1, i, h, h1, h2 => by
    unfold mapAt
    by_cases hq : t < (st s i).f0
    · rw [if_pos hq]
      have hg := gap_range (st s (i - 1)) (st s i) t h2 hq
      exact mix_vld _ _ _ _ _ _ _ _ _ (G.col (i - 1) (by omega)) (G.col i (by omega)) hg.1 hg.2
    · rw [if_neg hq]
      exact mapAt_vld s t G t1 k (i + 1) (by omega) (by omega) (by show (st s (i + 1 - 1)).f0 ≤ t; rw [show i + 1 - 1 = i by omega]; omega)
theorem mapped_vld (s : List S74) (t : Int) (G : GoodStops s) (t1 : t ≤ 65535) : VldP (pxOf (mappedPix s t)) := by
  unfold mappedPix
  by_cases h : t ≤ (st s 0).f0
  · rw [if_pos h]
    exact G.col 0 (by have := G.one; omega)
  · rw [if_neg h]
    exact mapAt_vld s t G t1 _ 1 (by have := G.one; omega) (by omega) (by show (st s 0).f0 ≤ t; omega)
theorem from_vld (h0 h1 h2 al : Int) : VldP (pxOf (fromPix h0 h1 h2 al)) ∧ (pxOf (fromPix h0 h1 h2 al)).f3 = lim al := by
  unfold fromPix
  by_cases h : lim al = 0
  · rw [if_pos h, h]
    exact ⟨⟨by decide, by decide, by decide, by decide, by decide, by decide, by decide, by decide⟩, rfl⟩
  · rw [if_neg h]
    exact ⟨⟨(lim_range _).1, (lim_range _).2, (lim_range _).1, (lim_range _).2, (lim_range _).1, (lim_range _).2, (lim_range al).1, (lim_range al).2⟩, rfl⟩
theorem curv_range (l : List Int) (c : Int) : 0 ≤ curvV l c ∧ curvV l c ≤ 65535 := by
  unfold curvV atv
  by_cases h : chk (At.X (knots l (l.length / 2))) (At.Y (knots l (l.length / 2))) (l.length / 2) = 0
  · rw [if_pos h]
    have g := (chk_ok _ _ _).1 h
    exact val_between g _ 0 65535 (fun i hi => g.y0 i hi) (fun i hi => g.y1 i hi)
  · rw [if_neg h]
    exact lim_range c
theorem chan_vld (f : Int → Int) (R G B A : Int) (V : Vld R G B A) (h : ∀ c, 0 ≤ c → c ≤ 65535 → 0 ≤ f c ∧ f c ≤ 65535) : VldP (chan f R G B A) :=
  ⟨(h R V.r0 V.r1).1, (h R V.r0 V.r1).2, (h G V.g0 V.g1).1, (h G V.g0 V.g1).2, (h B V.b0 V.b1).1, (h B V.b0 V.b1).2, V.a0, V.a1⟩
theorem grayP_vld (v A : Int) (h : 0 ≤ v ∧ v ≤ 65535) (a0 : 0 ≤ A) (a1 : A ≤ 65535) : VldP (grayP v A) := ⟨h.1, h.2, h.1, h.2, h.1, h.2, a0, a1⟩
theorem expo_range (p0 p1 c : Int) : 0 ≤ expoV p0 p1 c ∧ expoV p0 p1 c ≤ 65535 := by
  unfold expoV
  split
  · exact lim_range _
  · exact lim_range _
theorem app_keeps (k : Int) (l : List Int) (s : List S74) (R G B A : Int) (hG : Good k l s) (V : Vld R G B A) (ha : A ≠ 0) : VldP (appPix k l s R G B A) ∧ (appPix k l s R G B A).f3 = A := by
  have hk : k = 1 ∨ k = 2 ∨ k = 3 ∨ k = 4 ∨ k = 5 ∨ k = 6 ∨ k = 7 ∨ k = 8 ∨ k = 9 ∨ k = 10 ∨ k = 11 := by have := hG.k0; have := hG.k1; omega
  have hn := hG.n
  have hsp := hG.span
  unfold appPix
  rw [if_neg ha]
  rcases hk with rfl | rfl | rfl | rfl | rfl | rfl | rfl | rfl | rfl | rfl | rfl
  · exact ⟨chan_vld _ R G B A V (fun c h0 h1 => by omega), rfl⟩
  · have hl : l.length = 5 := by simp [countOk] at hn; omega
    have b0 := hsp 0 (by omega)
    have b1 := hsp 1 (by omega)
    have b2 := hsp 2 (by omega)
    have b3 := hsp 3 (by omega)
    have b4 := hsp 4 (by omega)
    simp [spanLo, spanHi, adjust_span.f] at b0 b1 b2 b3 b4
    refine ⟨chan_vld _ R G B A V (fun c h0 h1 => ?_), rfl⟩
    have ht := lim_range (rdiv ((c - rd l 0) * 65535) (rd l 1 - rd l 0))
    have hu := levU_bounds (levT (rd l 0) (rd l 1) c) (rd l 2) ht.1 ht.2 b2.1 b2.2
    exact lerp_range _ _ _ b3.1 b3.2 b4.1 b4.2 hu.2.2.2.2.2.1 hu.2.2.2.2.2.2
  · exact ⟨chan_vld _ R G B A V (fun c _ _ => curv_range l c), rfl⟩
  · exact ⟨chan_vld _ R G B A V (fun c _ _ => lim_range _), rfl⟩
  · have := from_vld (hueV R G B + rd l 0) (satT (satV R G B) (rd l 1)) (ligT (ligV R G B) (rd l 2)) A
    rw [lim_id V.a0 V.a1] at this
    exact this
  · refine ⟨grayP_vld _ A ?_ V.a0 V.a1, rfl⟩
    split
    · decide
    · decide
  · have hl : l.length = 1 := by simp [countOk] at hn; omega
    have b0 := hsp 0 (by omega)
    simp [spanLo, spanHi, adjust_span.f] at b0
    refine ⟨chan_vld _ R G B A V (fun c h0 h1 => ?_), rfl⟩
    exact (post_bounds (rd l 0 - 1) c (by omega) (by omega) h0 h1).2.2.2.2
  · exact ⟨⟨(lim_range _).1, (lim_range _).2, (lim_range _).1, (lim_range _).2, (lim_range _).1, (lim_range _).2, V.a0, V.a1⟩, rfl⟩
  · have hl : l.length = 3 := by simp [countOk] at hn; omega
    have b0 := hsp 0 (by omega)
    have b1 := hsp 1 (by omega)
    have b2 := hsp 2 (by omega)
    simp [spanLo, spanHi, adjust_span.f] at b0 b1 b2
    have hz : ¬ rd l 0 + rd l 1 + rd l 2 = 0 := fun h => hG.r.2.1 ⟨rfl, h⟩
    refine ⟨grayP_vld _ A ?_ V.a0 V.a1, rfl⟩
    have m : ∀ p x : Int, 0 ≤ p → 0 ≤ x → x ≤ 65535 → 0 ≤ p * x ∧ p * x ≤ 65535 * p := fun p x hp h0 h1 => ⟨Int.mul_nonneg hp h0, by have := Int.mul_le_mul_of_nonneg_left h1 hp; omega⟩
    have m0 := m (rd l 0) R b0.1 V.r0 V.r1
    have m1 := m (rd l 1) G b1.1 V.g0 V.g1
    have m2 := m (rd l 2) B b2.1 V.b0 V.b1
    exact rdiv_between _ _ 0 65535 (by omega) (by omega) (by omega)
  · have h := mapped_vld s (lumaV R G B) (hG.stops rfl) (luma_range R G B A V).2
    exact ⟨⟨h.r0, h.r1, h.g0, h.g1, h.b0, h.b1, V.a0, V.a1⟩, rfl⟩
  · exact ⟨chan_vld _ R G B A V (fun c _ _ => expo_range _ _ c), rfl⟩
end Go.Proofs.Ytmgpmpiondciiaa.Adj
