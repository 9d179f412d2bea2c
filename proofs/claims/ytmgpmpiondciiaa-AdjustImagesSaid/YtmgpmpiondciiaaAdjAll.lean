/- adjust.Pixel whole: what it answers for any kind, parameters, stops and pixel, as a plain function. No condition but that the slices lie in memory. -/
import Derived.Test.YtmgpmpiondciiaaAdjPx
namespace Go.Proofs.Ytmgpmpiondciiaa.Adj
open Go.RowKit Go.Proofs.Ytmgpmpiondciiaa.PAdjustImages Go.Proofs.YtmgpmpiondciiaaW.PrintWords Go.Proofs.YtmgpmpiondciiaaW.PrintMore Go.Proofs.Ytmgpmpiondciiaa.Plain
def pv (x : S45) : Value := .agg #[.int .i64 x.f0, .int .i64 x.f1, .int .i64 x.f2, .int .i64 x.f3]
def pxOf : Value → S45
  | .agg #[.int _ a, .int _ b, .int _ c, .int _ d] => ⟨a, b, c, d⟩
  | _ => ⟨0, 0, 0, 0⟩
theorem pv_pxOf {v : Value} (h : ∃ a b c d : Int, v = .agg #[.int .i64 a, .int .i64 b, .int .i64 c, .int .i64 d]) : pv (pxOf v) = v := by
  obtain ⟨a, b, c, d, rfl⟩ := h
  rfl
theorem mapAt_agg (l : List S74) (t : Int) : ∀ k i, ∃ a b c d : Int, mapAt l t k i = .agg #[.int .i64 a, .int .i64 b, .int .i64 c, .int .i64 d]
  | 0, _ => ⟨_, _, _, _, rfl⟩
  | k + 1, i => by
    unfold mapAt
    split
    · exact mixPix_agg _ _ _ _ _ _ _ _ _
    · exact mapAt_agg l t k (i + 1)
theorem mapped_agg (l : List S74) (t : Int) : ∃ a b c d : Int, mappedPix l t = .agg #[.int .i64 a, .int .i64 b, .int .i64 c, .int .i64 d] := by
  unfold mappedPix
  split
  · exact ⟨_, _, _, _, rfl⟩
  · exact mapAt_agg l t _ _
theorem hue_agg (p0 p1 p2 r g b a : Int) : ∃ x0 x1 x2 x3 : Int, huePix p0 p1 p2 r g b a = .agg #[.int .i64 x0, .int .i64 x1, .int .i64 x2, .int .i64 x3] := fromPix_agg _ _ _ _
def chan (f : Int → Int) (R G B A : Int) : S45 := ⟨f R, f G, f B, A⟩
def grayP (v A : Int) : S45 := ⟨v, v, v, A⟩
def appPix (k : Int) (l : List Int) (s : List S74) (R G B A : Int) : S45 :=
  if A = 0 then ⟨0, 0, 0, 0⟩
  else if k = 1 then chan (fun c => 65535 - c) R G B A
  else if k = 2 then chan (levelsV (rd l 0) (rd l 1) (rd l 2) (rd l 3) (rd l 4)) R G B A
  else if k = 3 then chan (curvV l) R G B A
  else if k = 4 then chan (brightV (rd l 0) (rd l 1)) R G B A
  else if k = 5 then pxOf (huePix (rd l 0) (rd l 1) (rd l 2) R G B A)
  else if k = 6 then grayP (if rd l 0 ≤ lumaV R G B then 65535 else 0) A
  else if k = 7 then chan (postV (rd l 0 - 1)) R G B A
  else if k = 8 then ⟨mixerV (rd l 0) (rd l 1) (rd l 2) R G B, mixerV (rd l 3) (rd l 4) (rd l 5) R G B, mixerV (rd l 6) (rd l 7) (rd l 8) R G B, A⟩
  else if k = 9 then grayP (grayV (rd l 0) (rd l 1) (rd l 2) R G B) A
  else if k = 10 then ⟨(pxOf (mappedPix s (lumaV R G B))).f0, (pxOf (mappedPix s (lumaV R G B))).f1, (pxOf (mappedPix s (lumaV R G B))).f2, A⟩
  else chan (expoV (rd l 0) (rd l 1)) R G B A
structure Good (k : Int) (l : List Int) (s : List S74) : Prop where
  k0 : 1 ≤ k
  k1 : k ≤ 11
  n : countOk k l.length = true
  b : (k == 10) = decide (0 < s.length)
  m : s.length ≤ 16
  r : InRange k l s
  o : ¬ BadOrder k l s
theorem check_zero (k : Int) (l : List Int) (s : List S74) : checkV k l s = 0 ↔ Good k l s := by
  unfold checkV
  by_cases h1 : k < 1 ∨ 11 < k
  · rw [if_pos h1]
    exact ⟨fun h => absurd h (by decide), fun h => by have := h.k0; have := h.k1; omega⟩
  rw [if_neg h1]
  by_cases h2 : BadCount k l s
  · rw [if_pos h2]
    refine ⟨fun h => absurd h (by decide), fun h => ?_⟩
    rcases h2 with h2 | h2
    · rw [h.n] at h2; exact absurd h2 (by decide)
    · exact absurd h.b h2
  rw [if_neg h2]
  have c1 : countOk k l.length = true := by
    have : ¬ countOk k l.length = false := fun h => h2 (.inl h)
    simpa using this
  have c2 : (k == 10) = decide (0 < s.length) := by
    have : ¬ (k == 10) ≠ decide (0 < s.length) := fun h => h2 (.inr h)
    exact Classical.not_not.1 this
  by_cases h3 : 16 < s.length
  · rw [if_pos h3]
    exact ⟨fun h => absurd h (by decide), fun h => by have := h.m; omega⟩
  rw [if_neg h3]
  by_cases h4 : InRange k l s
  · rw [if_neg (fun h => h h4)]
    by_cases h5 : BadOrder k l s
    · rw [if_pos h5]
      exact ⟨fun h => absurd h (by decide), fun h => absurd h5 h.o⟩
    · rw [if_neg h5]
      exact ⟨fun _ => ⟨by omega, by omega, c1, c2, by omega, h4, h5⟩, fun _ => rfl⟩
  · rw [if_pos h4]
    exact ⟨fun h => absurd h (by decide), fun h => absurd h.r h4⟩
theorem Good.stops {k : Int} {l : List Int} {s : List S74} (h : Good k l s) (hk : k = 10) : GoodStops s := by
  subst hk
  have hb : decide (0 < s.length) = true := h.b.symm
  have ho := h.o
  refine ⟨by simp at hb; omega, by have := h.m; omega, fun i hi => (vldB_iff _ _ _ _).1 (h.r.2.2 i hi).2.2, fun i hi => ⟨(h.r.2.2 i hi).1, (h.r.2.2 i hi).2.1⟩, fun i hi => ?_⟩
  have : OrdS s := Classical.byContradiction fun hn => ho (.inr (.inr hn))
  exact this i hi
theorem Good.span {k : Int} {l : List Int} {s : List S74} (h : Good k l s) (i : Nat) (hi : i < l.length) : spanLo k i ≤ rd l i ∧ rd l i ≤ spanHi k i := h.r.1 i hi
theorem apply_any (k : Int) (P : Option Addr) (cp : Nat) (l : List Int) (S : Option Addr) (cs : Nat) (s : List S74) (R G B A : Int) (w : World) (hp : Ints w P l) (hcp : l.length ≤ cp) (hs : Kd.C k74 w S s.length s) (hcs : s.length ≤ cs) (V : Vld R G B A) (hG : Good k l s) :
    Calls Try.prog 55 #[.int .i64 k, .slice P l.length cp, .slice S s.length cs, .agg #[.int .i64 R, .int .i64 G, .int .i64 B, .int .i64 A]] w fun e w' => e = .returned (pv (appPix k l s R G B A)) ∧ Below w.heap.size w w' := by
  by_cases ha : A = 0
  · subst ha
    exact apply_0 k P _ cp _ R G B w
  unfold appPix
  rw [if_neg ha]
  have hk : k = 1 ∨ k = 2 ∨ k = 3 ∨ k = 4 ∨ k = 5 ∨ k = 6 ∨ k = 7 ∨ k = 8 ∨ k = 9 ∨ k = 10 ∨ k = 11 := by have := hG.k0; have := hG.k1; omega
  have hn := hG.n
  have hsp := hG.span
  rcases hk with rfl | rfl | rfl | rfl | rfl | rfl | rfl | rfl | rfl | rfl | rfl
  · exact apply_1 P _ cp _ R G B A w V ha
  · have hl : l.length = 5 := by simp [countOk] at hn; omega
    obtain ⟨ad, rfl, x0, xi⟩ := ints_cell hp (by omega)
    have b0 := hsp 0 (by omega)
    have b1 := hsp 1 (by omega)
    have b2 := hsp 2 (by omega)
    have b3 := hsp 3 (by omega)
    have b4 := hsp 4 (by omega)
    simp [spanLo, spanHi, adjust_span.f] at b0 b1 b2 b3 b4
    have ho : ¬ rd l 1 ≤ rd l 0 := fun h => hG.o (.inl ⟨rfl, h⟩)
    have := apply_2 ad cp (.slice S s.length cs) (rd l 0) (rd l 1) (rd l 2) (rd l 3) (rd l 4) R G B A w V ha x0 (xi 1 (by omega) (by omega)) (xi 2 (by omega) (by omega)) (xi 3 (by omega) (by omega)) (xi 4 (by omega) (by omega)) b0.1 (by omega) b1.2 b2.1 b2.2 b3.1 b3.2 b4.1 b4.2
    rw [hl]
    exact this
  · have hl : 4 ≤ l.length ∧ l.length ≤ 16 ∧ l.length % 2 = 0 := by simp [countOk] at hn; omega
    exact apply_3 P cp _ l R G B A w V ha hp hl.2.1 hl.2.2
  · have hl : l.length = 2 := by simp [countOk] at hn; omega
    obtain ⟨ad, rfl, x0, xi⟩ := ints_cell hp (by omega)
    have b0 := hsp 0 (by omega)
    have b1 := hsp 1 (by omega)
    simp [spanLo, spanHi, adjust_span.f] at b0 b1
    have := apply_4 ad cp (.slice S s.length cs) (rd l 0) (rd l 1) R G B A w V ha x0 (xi 1 (by omega) (by omega)) b0.1 b0.2 b1.1 b1.2
    rw [hl]
    exact this
  · have hl : l.length = 3 := by simp [countOk] at hn; omega
    obtain ⟨ad, rfl, x0, xi⟩ := ints_cell hp (by omega)
    have b0 := hsp 0 (by omega)
    have b1 := hsp 1 (by omega)
    have b2 := hsp 2 (by omega)
    simp [spanLo, spanHi, adjust_span.f] at b0 b1 b2
    obtain ⟨v0, v1, v2, v3, hq⟩ := hue_agg (rd l 0) (rd l 1) (rd l 2) R G B A
    have := apply_5 ad cp (.slice S s.length cs) (rd l 0) (rd l 1) (rd l 2) v0 v1 v2 v3 R G B A w V ha x0 (xi 1 (by omega) (by omega)) (xi 2 (by omega) (by omega)) b0.1 b0.2 b1.1 b1.2 b2.1 b2.2 hq
    rw [hl]
    simp only [hq]
    exact this
  · have hl : l.length = 1 := by simp [countOk] at hn; omega
    obtain ⟨ad, rfl, x0, xi⟩ := ints_cell hp (by omega)
    rw [hl]
    by_cases q : rd l 0 ≤ lumaV R G B
    · simp only [if_pos q]
      exact apply_6t ad cp (.slice S s.length cs) (rd l 0) R G B A w V ha x0 q
    · simp only [if_neg q]
      exact apply_6f ad cp (.slice S s.length cs) (rd l 0) R G B A w V ha x0 q
  · have hl : l.length = 1 := by simp [countOk] at hn; omega
    obtain ⟨ad, rfl, x0, xi⟩ := ints_cell hp (by omega)
    have b0 := hsp 0 (by omega)
    simp [spanLo, spanHi, adjust_span.f] at b0
    rw [hl]
    exact apply_7 ad cp (.slice S s.length cs) (rd l 0) R G B A w V ha x0 b0.1 b0.2
  · have hl : l.length = 9 := by simp [countOk] at hn; omega
    obtain ⟨ad, rfl, x0, xi⟩ := ints_cell hp (by omega)
    have b := fun i (hi : i < l.length) => hsp i hi
    simp [spanLo, spanHi, adjust_span.f] at b
    have := apply_8 ad cp (.slice S s.length cs) (rd l 0) (rd l 1) (rd l 2) (rd l 3) (rd l 4) (rd l 5) (rd l 6) (rd l 7) (rd l 8) R G B A w V ha (by omega) x0 (xi 1 (by omega) (by omega)) (xi 2 (by omega) (by omega)) (xi 3 (by omega) (by omega)) (xi 4 (by omega) (by omega)) (xi 5 (by omega) (by omega)) (xi 6 (by omega) (by omega)) (xi 7 (by omega) (by omega)) (xi 8 (by omega) (by omega))
      (b 0 (by omega)).1 (b 0 (by omega)).2 (b 1 (by omega)).1 (b 1 (by omega)).2 (b 2 (by omega)).1 (b 2 (by omega)).2 (b 3 (by omega)).1 (b 3 (by omega)).2 (b 4 (by omega)).1 (b 4 (by omega)).2 (b 5 (by omega)).1 (b 5 (by omega)).2 (b 6 (by omega)).1 (b 6 (by omega)).2 (b 7 (by omega)).1 (b 7 (by omega)).2 (b 8 (by omega)).1 (b 8 (by omega)).2
    rw [hl]
    exact this
  · have hl : l.length = 3 := by simp [countOk] at hn; omega
    obtain ⟨ad, rfl, x0, xi⟩ := ints_cell hp (by omega)
    have b0 := hsp 0 (by omega)
    have b1 := hsp 1 (by omega)
    have b2 := hsp 2 (by omega)
    simp [spanLo, spanHi, adjust_span.f] at b0 b1 b2
    have hz : ¬ rd l 0 + rd l 1 + rd l 2 = 0 := fun h => hG.r.2.1 ⟨rfl, h⟩
    have := apply_9 ad cp (.slice S s.length cs) (rd l 0) (rd l 1) (rd l 2) R G B A w V ha x0 (xi 1 (by omega) (by omega)) (xi 2 (by omega) (by omega)) b0.1 b0.2 b1.1 b1.2 b2.1 b2.2 (by omega)
    rw [hl]
    exact this
  · obtain ⟨v0, v1, v2, v3, hq⟩ := mapped_agg s (lumaV R G B)
    have := apply_10 P S l.length cp cs s v0 v1 v2 v3 R G B A w V ha hs hcs (hG.stops rfl) hq
    simp only [hq]
    exact this
  · have hl : l.length = 2 := by simp [countOk] at hn; omega
    obtain ⟨ad, rfl, x0, xi⟩ := ints_cell hp (by omega)
    have b0 := hsp 0 (by omega)
    have b1 := hsp 1 (by omega)
    simp [spanLo, spanHi, adjust_span.f] at b0 b1
    have := apply_11 ad cp (.slice S s.length cs) (rd l 0) (rd l 1) R G B A w V ha x0 (xi 1 (by omega) (by omega)) b0.1 b0.2 b1.1 b1.2
    rw [hl]
    exact this
def pixErr (k : Int) (l : List Int) (s : List S74) (R G B A : Int) : Int := if checkV k l s = 0 then (if vldB R G B A = true then 0 else 2) else checkV k l s
def pixAns (k : Int) (l : List Int) (s : List S74) (R G B A : Int) : S45 := if pixErr k l s R G B A = 0 then appPix k l s R G B A else ⟨0, 0, 0, 0⟩
theorem pixel_any (k : Int) (P : Option Addr) (cp : Nat) (l : List Int) (S : Option Addr) (cs : Nat) (s : List S74) (R G B A : Int) (w : World) (hp : Ints w P l) (hcp : l.length ≤ cp) (hs : Kd.C k74 w S s.length s) (hcs : s.length ≤ cs) :
    Calls Try.prog 36 #[.int .i64 k, .slice P l.length cp, .slice S s.length cs, .agg #[.int .i64 R, .int .i64 G, .int .i64 B, .int .i64 A]] w fun e w' => e = .returned (.tuple #[pv (pixAns k l s R G B A), .int .i64 (pixErr k l s R G B A)]) ∧ Below w.heap.size w w' := by
  have HC := fun w1 (hb : Below w.heap.size w w1) => check_any k P cp l S cs s w1 (Kd.C_below hp hb) hcp (Kd.C_below hs hb) hcs
  unfold pixAns pixErr
  by_cases h : checkV k l s = 0
  · rw [h] at HC
    simp only [if_pos h]
    by_cases hv : vldB R G B A = true
    · simp only [if_pos hv]
      exact pixel_ok k P l.length cp S s.length cs R G B A _ _ _ _ w hv ⟨HC⟩ ⟨fun w1 hb => apply_any k P cp l S cs s R G B A w1 (Kd.C_below hp hb) hcp (Kd.C_below hs hb) hcs ((vldB_iff _ _ _ _).1 hv) ((check_zero k l s).1 h)⟩
    · simp only [if_neg hv]
      exact pixel_bad k P l.length cp S s.length cs R G B A w (by simpa using hv) ⟨HC⟩
  · simp only [if_neg h]
    exact pixel_err k P l.length cp S s.length cs R G B A _ w (by simpa using h) ⟨HC⟩
end Go.Proofs.Ytmgpmpiondciiaa.Adj
