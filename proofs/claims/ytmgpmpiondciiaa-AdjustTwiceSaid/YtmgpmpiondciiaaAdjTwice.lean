/- The plain law of AdjustTwice: inverting twice changes nothing; threshold, posterize and gray done twice are as done once. No condition but those of each theorem. -/
import Derived.Test.YtmgpmpiondciiaaAdjKeep
namespace Go.Proofs.Ytmgpmpiondciiaa.Adj
open Go.RowKit Go.Proofs.Ytmgpmpiondciiaa.PAdjustImages Go.Proofs.YtmgpmpiondciiaaW.PrintWords Go.Proofs.YtmgpmpiondciiaaW.PrintMore Go.Proofs.Ytmgpmpiondciiaa.Plain
theorem rdiv_close (k e u : Int) (hu : 0 < u) (h0 : -u < 2 * e) (h1 : 2 * e < u) : rdiv (k * u + e) u = k := by
  refine rdiv_unique _ _ _ hu ?_ ?_
  · have : u * (2 * k) = 2 * (k * u) := by rw [Int.mul_left_comm, Int.mul_comm u k]
    omega
  · have : u * (2 * k) = 2 * (k * u) := by rw [Int.mul_left_comm, Int.mul_comm u k]
    omega
theorem post_twice (n c : Int) (n0 : 1 ≤ n) (n1 : n ≤ 255) : postV n (postV n c) = postV n c := by
  obtain ⟨k, hk⟩ : ∃ k, rdiv (c * n) 65535 = k := ⟨_, rfl⟩
  have e1 : postV n c = rdiv (k * 65535) n := by unfold postV; rw [hk]
  have s := rdiv_spec (k * 65535) n (by omega)
  have key : rdiv (postV n c * n) 65535 = k := by
    rw [e1]
    have e2 : rdiv (k * 65535) n * n = k * 65535 + (rdiv (k * 65535) n * n - k * 65535) := by omega
    have e3 : n * (2 * rdiv (k * 65535) n) = 2 * (rdiv (k * 65535) n * n) := by rw [Int.mul_left_comm, Int.mul_comm n]
    rw [e3] at s
    rw [e2]
    generalize rdiv (k * 65535) n * n = Y at s
    exact rdiv_close k _ 65535 (by decide) (by omega) (by omega)
  show rdiv (rdiv (postV n c * n) 65535 * 65535) n = postV n c
  rw [key, e1]
theorem luma_white : lumaV 65535 65535 65535 = 65535 := by decide
theorem luma_black : lumaV 0 0 0 = 0 := by decide
theorem gray_gray (p0 p1 p2 v : Int) (h : 0 < p0 + p1 + p2) : grayV p0 p1 p2 v v v = v := by
  unfold grayV
  rw [← Int.add_mul, ← Int.add_mul, Int.mul_comm]
  exact rdiv_mul v _ h
theorem good_1 : Good 1 [] [] := ⟨by decide, by decide, by decide, by decide, by decide, by decide, by decide⟩
theorem good_6 (p0 : Int) (h0 : 0 ≤ p0) (h1 : p0 ≤ 65535) : Good 6 [p0] [] := by
  refine ⟨by decide, by decide, rfl, by decide, by simp, ⟨fun i hi => ?_, fun h => absurd h.1 (by decide), fun i hi => absurd hi (by simp)⟩, fun h => ?_⟩
  · obtain rfl : i = 0 := by simp at hi; omega
    simp [spanLo, spanHi, adjust_span.f, rd]
    omega
  · rcases h with h | h | h
    · exact absurd h.1 (by decide)
    · exact absurd h.1 (by decide)
    · exact h (ordS_short [] (by simp))
theorem good_7 (p0 : Int) (h0 : 2 ≤ p0) (h1 : p0 ≤ 256) : Good 7 [p0] [] := by
  refine ⟨by decide, by decide, rfl, by decide, by simp, ⟨fun i hi => ?_, fun h => absurd h.1 (by decide), fun i hi => absurd hi (by simp)⟩, fun h => ?_⟩
  · obtain rfl : i = 0 := by simp at hi; omega
    simp [spanLo, spanHi, adjust_span.f, rd]
    omega
  · rcases h with h | h | h
    · exact absurd h.1 (by decide)
    · exact absurd h.1 (by decide)
    · exact h (ordS_short [] (by simp))
theorem good_9 (p0 p1 p2 : Int) (h0 : 0 ≤ p0) (h1 : p0 ≤ 65535) (h2 : 0 ≤ p1) (h3 : p1 ≤ 65535) (h4 : 1 ≤ p2) (h5 : p2 ≤ 65535) : Good 9 [p0, p1, p2] [] := by
  refine ⟨by decide, by decide, rfl, by decide, by simp, ⟨fun i hi => ?_, fun h => ?_, fun i hi => absurd hi (by simp)⟩, fun h => ?_⟩
  · have : i = 0 ∨ i = 1 ∨ i = 2 := by simp at hi; omega
    rcases this with rfl | rfl | rfl <;> simp [spanLo, spanHi, adjust_span.f, rd] <;> omega
  · have := h.2
    simp [rd] at this
    omega
  · rcases h with h | h | h
    · exact absurd h.1 (by decide)
    · exact absurd h.1 (by decide)
    · exact h (ordS_short [] (by simp))
/-- What is good at a valid pixel answers without an error. -/
theorem pix_good {k : Int} {l : List Int} {R G B A : Int} (h : Good k l []) (V : Vld R G B A) : pixErr k l [] R G B A = 0 ∧ pixAns k l [] R G B A = appPix k l [] R G B A := by
  have e : pixErr k l [] R G B A = 0 := by
    unfold pixErr
    rw [if_pos ((check_zero k l []).2 h), if_pos ((vldB_iff _ _ _ _).2 V)]
  exact ⟨e, by unfold pixAns; rw [if_pos e]⟩
theorem app_1 (R G B A : Int) (ha : A ≠ 0) : appPix 1 [] [] R G B A = ⟨65535 - R, 65535 - G, 65535 - B, A⟩ := by unfold appPix; rw [if_neg ha, if_pos rfl]; rfl
theorem app_6 (p0 R G B A : Int) (ha : A ≠ 0) : appPix 6 [p0] [] R G B A = grayP (if p0 ≤ lumaV R G B then 65535 else 0) A := by unfold appPix; rw [if_neg ha]; rfl
theorem app_7 (p0 R G B A : Int) (ha : A ≠ 0) : appPix 7 [p0] [] R G B A = chan (postV (p0 - 1)) R G B A := by unfold appPix; rw [if_neg ha]; rfl
theorem app_9 (p0 p1 p2 R G B A : Int) (ha : A ≠ 0) : appPix 9 [p0, p1, p2] [] R G B A = grayP (grayV p0 p1 p2 R G B) A := by unfold appPix; rw [if_neg ha]; rfl
theorem twice_6 (p0 R G B A : Int) (h1 : p0 ≤ 65535) (V : Vld R G B A) (ha : A ≠ 0) : appPix 6 [p0] [] (appPix 6 [p0] [] R G B A).f0 (appPix 6 [p0] [] R G B A).f1 (appPix 6 [p0] [] R G B A).f2 A = appPix 6 [p0] [] R G B A := by
  rw [app_6 p0 R G B A ha, app_6 _ _ _ _ A ha]
  have hl := luma_range R G B A V
  by_cases h : p0 ≤ lumaV R G B
  · rw [if_pos h]
    show grayP (if p0 ≤ lumaV 65535 65535 65535 then 65535 else 0) A = _
    rw [luma_white, if_pos h1]
  · rw [if_neg h]
    show grayP (if p0 ≤ lumaV 0 0 0 then 65535 else 0) A = _
    rw [luma_black, if_neg (by omega)]
theorem twice_7 (p0 R G B A : Int) (h0 : 2 ≤ p0) (h1 : p0 ≤ 256) (ha : A ≠ 0) : appPix 7 [p0] [] (appPix 7 [p0] [] R G B A).f0 (appPix 7 [p0] [] R G B A).f1 (appPix 7 [p0] [] R G B A).f2 A = appPix 7 [p0] [] R G B A := by
  rw [app_7 p0 R G B A ha, app_7 _ _ _ _ A ha]
  show (⟨postV (p0 - 1) (postV (p0 - 1) R), postV (p0 - 1) (postV (p0 - 1) G), postV (p0 - 1) (postV (p0 - 1) B), A⟩ : S45) = ⟨postV (p0 - 1) R, postV (p0 - 1) G, postV (p0 - 1) B, A⟩
  rw [post_twice _ _ (by omega) (by omega), post_twice _ _ (by omega) (by omega), post_twice _ _ (by omega) (by omega)]
theorem twice_9 (p0 p1 p2 R G B A : Int) (h : 0 < p0 + p1 + p2) (ha : A ≠ 0) : appPix 9 [p0, p1, p2] [] (appPix 9 [p0, p1, p2] [] R G B A).f0 (appPix 9 [p0, p1, p2] [] R G B A).f1 (appPix 9 [p0, p1, p2] [] R G B A).f2 A = appPix 9 [p0, p1, p2] [] R G B A := by
  rw [app_9 p0 p1 p2 R G B A ha, app_9 _ _ _ _ _ _ A ha]
  show grayP (grayV p0 p1 p2 (grayV p0 p1 p2 R G B) (grayV p0 p1 p2 R G B) (grayV p0 p1 p2 R G B)) A = _
  rw [gray_gray p0 p1 p2 _ h]
end Go.Proofs.Ytmgpmpiondciiaa.Adj
