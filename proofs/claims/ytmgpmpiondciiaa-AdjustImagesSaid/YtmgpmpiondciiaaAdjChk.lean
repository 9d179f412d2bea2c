/- The plain side of adjust.Check: what counts and ranges are right, as plain functions of a kind, a list of numbers and a list of stops. No condition but those of each theorem. -/
import Derived.Test.YtmgpmpiondciiaaAdjMap
import Derived.Test.YtmgpmpiondciiaaCore
namespace Go.Proofs.Ytmgpmpiondciiaa.Adj
open Go.RowKit Go.Proofs.Ytmgpmpiondciiaa.PAdjustImages Go.Proofs.YtmgpmpiondciiaaW.PrintWords Go.Proofs.YtmgpmpiondciiaaW.PrintMore Go.Proofs.Ytmgpmpiondciiaa.Plain
def countOk (k n : Int) : Bool :=
  if k = 2 then n == 5 else if k = 3 then decide (4 ≤ n) && (decide (n ≤ 16) && n % 2 == 0) else if k = 4 ∨ k = 11 then n == 2 else if k = 5 ∨ k = 9 then n == 3 else if k = 6 ∨ k = 7 then n == 1 else if k = 8 then n == 9 else n == 0
theorem count_f (k : Int) (n : Nat) : adjust_count.f 5 k n = some (countOk k n) := by
  unfold adjust_count.f countOk
  by_cases h2 : k = 2
  · rw [if_pos h2, if_pos h2]
  rw [if_neg h2, if_neg h2]
  by_cases h3 : k = 3
  · rw [if_pos h3, if_pos h3, Int.tmod_eq_emod_of_nonneg (by omega)]
    by_cases a : (4 : Int) ≤ n
    · rw [if_pos a]
      by_cases b : (n : Int) ≤ 16
      · rw [if_pos b]
        simp [a, b]
      · rw [if_neg b]
        simp [b]
    · rw [if_neg a]
      simp [a]
  rw [if_neg h3, if_neg h3]
  by_cases h4 : k = 4
  · subst h4; simp [adjust_count.j0]
  by_cases h11 : k = 11
  · subst h11; simp [adjust_count.j0]
  rw [if_neg h4]
  simp only [adjust_count.j0, h4, h11]
  by_cases h5 : k = 5
  · subst h5; simp [adjust_count.j1]
  by_cases h9 : k = 9
  · subst h9; simp [adjust_count.j1]
  by_cases h6 : k = 6
  · subst h6; simp [adjust_count.j1, adjust_count.j2]
  by_cases h7 : k = 7
  · subst h7; simp [adjust_count.j1, adjust_count.j2]
  by_cases h8 : k = 8
  · subst h8; simp [adjust_count.j1, adjust_count.j2]
  simp [adjust_count.j1, adjust_count.j2, h5, h6, h7, h8, h9, h11]
def spanLo (k i : Int) : Int := ((adjust_span.f k i).getD (0, 0)).1
def spanHi (k i : Int) : Int := ((adjust_span.f k i).getD (0, 0)).2
theorem span_f (k i : Int) : adjust_span.f k i = some (spanLo k i, spanHi k i) := by
  unfold spanLo spanHi adjust_span.f
  repeat' split
  all_goals rfl
theorem span_bounds (k i : Int) : -262140 ≤ spanLo k i ∧ spanHi k i ≤ 262140 := by
  unfold spanLo spanHi adjust_span.f
  repeat' split
  all_goals decide
def InSpan (k : Int) (l : List Int) : Prop := ∀ i : Nat, i < l.length → spanLo k i ≤ rd l i ∧ rd l i ≤ spanHi k i
def OkStops (s : List S74) : Prop := ∀ i : Nat, i < s.length → 0 ≤ (st s i).f0 ∧ (st s i).f0 ≤ 65535 ∧ vldB (st s i).f1.f0 (st s i).f1.f1 (st s i).f1.f2 (st s i).f1.f3 = true
def InRange (k : Int) (l : List Int) (s : List S74) : Prop := InSpan k l ∧ ¬ (k = 9 ∧ rd l 0 + rd l 1 + rd l 2 = 0) ∧ OkStops s
instance (k : Int) (l : List Int) : Decidable (InSpan k l) := by unfold InSpan; infer_instance
instance (s : List S74) : Decidable (OkStops s) := by unfold OkStops; infer_instance
instance (k : Int) (l : List Int) (s : List S74) : Decidable (InRange k l s) := by unfold InRange; infer_instance
theorem Valid_f (r g b a : Int) : pixel_Valid.f r g b a = some (vldB r g b a) := by
  unfold pixel_Valid.f pixel_Limit.f pixel_unit.f
  rw [clamp_unit, clamp_unit, clamp_unit, clamp_unit]
  rfl
theorem wr_next (i : Nat) (h : i ≤ 100000) : wrap64 ((i : Int) + 1) = ((i + 1 : Nat) : Int) := by rw [wr _ (by omega) (by omega)]; omega
theorem stops_loop (s : List S74) : ∀ (d i k : Nat), i + d = s.length → s.length ≤ 100 → d < k →
    ((∀ j, i ≤ j → j < s.length → 0 ≤ (st s j).f0 ∧ (st s j).f0 ≤ 65535 ∧ vldB (st s j).f1.f0 (st s j).f1.f1 (st s j).f1.f2 (st s j).f1.f3 = true) → adjust_ranges.l1 k s (s.length : Int) (i : Int) = some 0) ∧
    (¬ (∀ j, i ≤ j → j < s.length → 0 ≤ (st s j).f0 ∧ (st s j).f0 ≤ 65535 ∧ vldB (st s j).f1.f0 (st s j).f1.f1 (st s j).f1.f2 (st s j).f1.f3 = true) → adjust_ranges.l1 k s (s.length : Int) (i : Int) = some 2) := by
  intro d
  induction d with
  | zero =>
    intro i k h1 h2 h3
    obtain ⟨k, rfl⟩ : ∃ m, k = m + 1 := ⟨k - 1, by omega⟩
    constructor
    · intro _
      simp only [adjust_ranges.l1]
      rw [if_neg (by omega)]
    · intro h
      exact absurd (fun j hj hj2 => by omega) h
  | succ d ih =>
    intro i k h1 h2 h3
    obtain ⟨k, rfl⟩ : ∃ m, k = m + 1 := ⟨k - 1, by omega⟩
    obtain ⟨ih1, ih2⟩ := ih (i + 1) k (by omega) h2 (by omega)
    have e : adjust_ranges.l1 (k + 1) s (s.length : Int) (i : Int) = if (st s i).f0 < 0 then some 2 else if (st s i).f0 > 65535 then some 2 else if vldB (st s i).f1.f0 (st s i).f1.f1 (st s i).f1.f2 (st s i).f1.f3 = true then adjust_ranges.l1 k s (s.length : Int) ((i + 1 : Nat) : Int) else some 2 := by
      simp only [adjust_ranges.l1, Valid_f, Option.bind_some]
      rw [if_pos (by omega), if_pos (by omega), if_pos (by omega), wr_next i (by omega)]
    rw [e]
    by_cases c1 : (st s i).f0 < 0
    · rw [if_pos c1]
      exact ⟨fun h => by have := h i (by omega) (by omega); omega, fun _ => rfl⟩
    rw [if_neg c1]
    by_cases c2 : (st s i).f0 > 65535
    · rw [if_pos c2]
      exact ⟨fun h => by have := h i (by omega) (by omega); omega, fun _ => rfl⟩
    rw [if_neg c2]
    by_cases c3 : vldB (st s i).f1.f0 (st s i).f1.f1 (st s i).f1.f2 (st s i).f1.f3 = true
    · rw [if_pos c3]
      refine ⟨fun h => ih1 (fun j hj hj2 => h j (by omega) hj2), fun h => ih2 (fun h' => h (fun j hj hj2 => ?_))⟩
      by_cases hji : j = i
      · subst hji
        exact ⟨by omega, by omega, c3⟩
      · exact h' j (by omega) hj2
    · rw [if_neg c3]
      exact ⟨fun h => absurd (h i (by omega) (by omega)).2.2 c3, fun _ => rfl⟩
theorem stops_f (s : List S74) (k : Nat) (h2 : s.length ≤ 100) (hk : s.length < k) : adjust_ranges.l1 k s (s.length : Int) 0 = some (if OkStops s then 0 else 2) := by
  obtain ⟨h3, h4⟩ := stops_loop s s.length 0 k (by omega) h2 hk
  by_cases h : OkStops s
  · rw [if_pos h]
    exact h3 (fun j _ hj => h j hj)
  · rw [if_neg h]
    exact h4 (fun h' => h (fun j hj => h' j (by omega) hj))
theorem params_loop (c : Int) (l : List Int) (s : List S74) (hs : s.length ≤ 100) (hl : l.length ≤ 100) : ∀ (d i k : Nat), i + d = l.length → d + 110 ≤ k → (c = 9 → 3 ≤ l.length ∧ ∀ j : Nat, j < i → spanLo c j ≤ rd l j ∧ rd l j ≤ spanHi c j) →
    ((∀ j : Nat, i ≤ j → j < l.length → spanLo c j ≤ rd l j ∧ rd l j ≤ spanHi c j) → adjust_ranges.l0 k c l s l (l.length : Int) (i : Int) = some (if ¬ (c = 9 ∧ rd l 0 + rd l 1 + rd l 2 = 0) ∧ OkStops s then 0 else 2)) ∧
    (¬ (∀ j : Nat, i ≤ j → j < l.length → spanLo c j ≤ rd l j ∧ rd l j ≤ spanHi c j) → adjust_ranges.l0 k c l s l (l.length : Int) (i : Int) = some 2) := by
  intro d
  induction d with
  | zero =>
    intro i k h1 h3 h9
    obtain ⟨k, rfl⟩ : ∃ m, k = m + 1 := ⟨k - 1, by omega⟩
    constructor
    · intro _
      simp only [adjust_ranges.l0]
      rw [if_neg (by omega)]
      obtain ⟨k, rfl⟩ : ∃ m, k = m + 1 := ⟨k - 1, by omega⟩
      by_cases h : c = 9
      · obtain ⟨hn, hsp⟩ := h9 h
        rw [if_pos h, if_pos (by omega), if_pos (by omega), if_pos (by omega)]
        have b0 := hsp 0 (by omega)
        have b1 := hsp 1 (by omega)
        have b2 := hsp 2 (by omega)
        have v0 := span_bounds c 0
        have v1 := span_bounds c 1
        have v2 := span_bounds c 2
        simp only [Int.cast_ofNat_Int] at b0 b1 b2
        rw [wr (rd l 0 + rd l 1) (by omega) (by omega), wr (rd l 0 + rd l 1 + rd l 2) (by omega) (by omega)]
        simp only [adjust_ranges.j1]
        by_cases hz : rd l 0 + rd l 1 + rd l 2 = 0
        · rw [if_pos (by simpa using hz), if_neg (by simp [h, hz])]
        · rw [if_neg (by simpa using hz), stops_f s k hs (by omega)]
          simp [hz]
      · rw [if_neg h]
        simp only [adjust_ranges.j1]
        rw [if_neg (by decide), stops_f s k hs (by omega)]
        simp [h]
    · intro h
      exact absurd (fun j hj hj2 => by omega) h
  | succ d ih =>
    intro i k h1 h3 h9
    obtain ⟨k, rfl⟩ : ∃ m, k = m + 1 := ⟨k - 1, by omega⟩
    have e : adjust_ranges.l0 (k + 1) c l s l (l.length : Int) (i : Int) = if rd l i < spanLo c i then some 2 else if rd l i > spanHi c i then some 2 else adjust_ranges.l0 k c l s l (l.length : Int) ((i + 1 : Nat) : Int) := by
      simp only [adjust_ranges.l0, span_f, Option.bind_some]
      rw [if_pos (by omega), if_pos (by omega), if_pos (by omega), wr_next i (by omega)]
    rw [e]
    by_cases c1 : rd l i < spanLo c i
    · rw [if_pos c1]
      exact ⟨fun h => by have := h i (by omega) (by omega); omega, fun _ => rfl⟩
    rw [if_neg c1]
    by_cases c2 : rd l i > spanHi c i
    · rw [if_pos c2]
      exact ⟨fun h => by have := h i (by omega) (by omega); omega, fun _ => rfl⟩
    rw [if_neg c2]
    have h9' : c = 9 → 3 ≤ l.length ∧ ∀ j : Nat, j < i + 1 → spanLo c j ≤ rd l j ∧ rd l j ≤ spanHi c j := fun e => ⟨(h9 e).1, fun j hj => by
      by_cases hji : j = i
      · subst hji
        exact ⟨by omega, by omega⟩
      · exact (h9 e).2 j (by omega)⟩
    obtain ⟨ih1, ih2⟩ := ih (i + 1) k (by omega) (by omega) h9'
    refine ⟨fun h => ih1 (fun j hj hj2 => h j (by omega) hj2), fun h => ih2 (fun h' => h (fun j hj hj2 => ?_))⟩
    by_cases hji : j = i
    · subst hji
      exact ⟨by omega, by omega⟩
    · exact h' j (by omega) hj2
theorem ranges_f (c : Int) (l : List Int) (s : List S74) (hs : s.length ≤ 100) (hl : l.length ≤ 100) (h9 : c = 9 → 3 ≤ l.length) : adjust_ranges.f 300 c l s = some (if InRange c l s then 0 else 2) := by
  obtain ⟨p1, p2⟩ := params_loop c l s hs hl l.length 0 300 (by omega) (by omega) (fun e => ⟨h9 e, fun j hj => by omega⟩)
  rw [show ((0 : Nat) : Int) = 0 from rfl] at p1 p2
  unfold adjust_ranges.f
  by_cases h : InSpan c l
  · rw [p1 (fun j _ hj => h j hj)]
    by_cases h2 : ¬ (c = 9 ∧ rd l 0 + rd l 1 + rd l 2 = 0) ∧ OkStops s
    · rw [if_pos h2, if_pos (show InRange c l s from ⟨h, h2⟩)]
    · rw [if_neg h2, if_neg (fun h' : InRange c l s => h2 h'.2)]
  · rw [p2 (fun h' => h (fun j hj => h' j (by omega) hj)), if_neg (fun h' : InRange c l s => h h'.1)]
end Go.Proofs.Ytmgpmpiondciiaa.Adj
