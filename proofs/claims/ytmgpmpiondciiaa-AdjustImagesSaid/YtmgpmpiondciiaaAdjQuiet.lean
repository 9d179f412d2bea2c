/- The functions of package num and adjust that make no memory, as contracts: a number, and a world that was only drawn from. No condition but the bounds of each theorem. -/
import Derived.Test.YtmgpmpiondciiaaAdjNum
namespace Go.Proofs.Ytmgpmpiondciiaa.Adj
open Go.RowKit Go.Proofs.Ytmgpmpiondciiaa.PAdjustImages Go.Proofs.YtmgpmpiondciiaaW.PrintWords Go.Proofs.YtmgpmpiondciiaaW.PrintMore Go.Proofs.Ytmgpmpiondciiaa.Plain
attribute [local go_sem] max2_int min2_int max_two min_two
/-- A call that answers a value and leaves the world but for draws. -/
abbrev Qt (f : Nat) (args : Array Value) (w : World) (v : Value) : Prop := Calls Try.prog f args w fun e w' => e = .returned v ∧ ∃ m, w' = w.drewN m
theorem Qt.at {f : Nat} {args : Array Value} {w : World} {n : Nat} {v : Value} (h : Qt f args (w.drewN n) v) : Calls Try.prog f args (w.drewN n) fun e w'' => e = .returned v ∧ ∃ m, w'' = w.drewN m := Calls.quiet_of h
theorem Qt.at2 {f : Nat} {args : Array Value} {w : World} {a n : Nat} {v : Value} (h : Qt f args (w.drewN (a + n)) v) : Calls Try.prog f args (w.drewN (a + n)) fun e w'' => e = .returned v ∧ ∃ m, w'' = w.drewN (a + m) :=
  h.mono fun _ _ ⟨he, m, hm⟩ => ⟨he, n + m, by rw [hm, World.drewN_drewN, Nat.add_assoc]⟩
theorem Qt.below {f : Nat} {args : Array Value} {w : World} {v : Value} (h : Qt f args w v) : Calls Try.prog f args w fun e w' => e = .returned v ∧ Below w.heap.size w w' :=
  h.mono fun _ _ ⟨he, m, hm⟩ => ⟨he, by rw [hm]; exact pw_below_drewN (Below.refl _ _) m⟩
theorem divQ (a b : Int) (w : World) (hb : 0 < b) (hb2 : b ≤ 4611686018427387904) (ha : -4611686018427387904 ≤ a) (ha2 : a ≤ 4611686018427387904) : Qt 60 #[.int .i64 a, .int .i64 b] w (.int .i64 (rdiv a b)) :=
  (div_any a b w hb hb2 ha ha2).mono fun _ _ ⟨he, hd⟩ => ⟨he, hd.out⟩
theorem clampQ (x lo hi : Int) (w : World) : Qt 50 #[.int .i64 x, .int .i64 lo, .int .i64 hi] w (.int .i64 (mn hi (mx x lo))) := by
  obtain ⟨z, hz⟩ : ∃ z, (if x < lo then lo else x) = z := ⟨_, rfl⟩
  obtain ⟨y, hy⟩ : ∃ y, (if z < hi then z else hi) = y := ⟨_, rfl⟩
  have e : mn hi (mx x lo) = y := by
    unfold mn mx
    rw [hz, hy]
  rw [e]
  clear e
  go_enter Try.func50, Try.ntmps50
  go_wp2
  go_ret
  exact ⟨rfl, 0, rfl⟩
theorem mnmx_lim (x : Int) : mn 65535 (mx x 0) = lim x := by
  unfold mn mx lim
  repeat' split
  all_goals omega
theorem limQ (x : Int) (w : World) : Qt 65 #[.int .i64 x] w (.int .i64 (lim x)) := by
  go_enter Try.func65, Try.ntmps65
  go_wp2_with fail
  refine (clampQ x 0 65535 _).mono ?_
  rintro e w' ⟨rfl, m, rfl⟩
  rw [mnmx_lim]
  go_wp2
  go_ret
  exact ⟨rfl, m, rfl⟩
theorem unitQ (x : Int) (w : World) : Qt 94 #[.int .i64 x] w (.int .i64 (lim x)) := by
  go_enter Try.func94, Try.ntmps94
  go_wp2_with fail
  refine (clampQ x 0 65535 _).mono ?_
  rintro e w' ⟨rfl, m, rfl⟩
  rw [mnmx_lim]
  go_wp2
  go_ret
  exact ⟨rfl, m, rfl⟩
theorem nunitQ (x : Int) (w : World) : Qt 103 #[.int .i64 x] w (.int .i64 (lim x)) := by
  obtain ⟨z, hz⟩ : ∃ z, (if x < 0 then 0 else x) = z := ⟨_, rfl⟩
  obtain ⟨y, hy⟩ : ∃ y, (if z < 65535 then z else 65535) = y := ⟨_, rfl⟩
  have e : lim x = y := by
    rw [← mnmx_lim]
    unfold mn mx
    rw [hz, hy]
  rw [e]
  clear e
  go_enter Try.func103, Try.ntmps103
  go_wp2
  go_ret
  exact ⟨rfl, 0, rfl⟩

/-! ### num.Lerp -/
def lerpV (a b t : Int) : Int := rdiv (a * (65535 - t) + b * t) 65535
theorem lerp_bounds (a b t : Int) (a0 : 0 ≤ a) (a1 : a ≤ 65535) (b0 : 0 ≤ b) (b1 : b ≤ 65535) (t0 : 0 ≤ t) (t1 : t ≤ 65535) :
    0 ≤ a * (65535 - t) ∧ a * (65535 - t) ≤ 4294836225 ∧ 0 ≤ b * t ∧ b * t ≤ 4294836225 ∧ a * (65535 - t) + b * t ≤ 4294836225 := by
  have h1 : a * (65535 - t) ≤ 65535 * (65535 - t) := Int.mul_le_mul_of_nonneg_right a1 (by omega)
  have h2 : b * t ≤ 65535 * t := Int.mul_le_mul_of_nonneg_right b1 t0
  have h3 : 0 ≤ a * (65535 - t) := Int.mul_nonneg a0 (by omega)
  have h4 : 0 ≤ b * t := Int.mul_nonneg b0 t0
  omega
theorem lerp_range (a b t : Int) (a0 : 0 ≤ a) (a1 : a ≤ 65535) (b0 : 0 ≤ b) (b1 : b ≤ 65535) (t0 : 0 ≤ t) (t1 : t ≤ 65535) : 0 ≤ lerpV a b t ∧ lerpV a b t ≤ 65535 := by
  have := lerp_bounds a b t a0 a1 b0 b1 t0 t1
  exact rdiv_between _ _ 0 65535 (by omega) (by omega) (by omega)
theorem clamp_wide (x : Int) (h0 : 0 ≤ x) (h1 : x ≤ 65535) : mn 1099511627776 (mx x (-1099511627776)) = x := by
  unfold mn mx
  repeat' split
  all_goals omega
set_option maxRecDepth 100000 in
theorem lerpQ (a b t : Int) (w : World) (a0 : 0 ≤ a) (a1 : a ≤ 65535) (b0 : 0 ≤ b) (b1 : b ≤ 65535) (t0 : 0 ≤ t) (t1 : t ≤ 65535) : Qt 97 #[.int .i64 a, .int .i64 b, .int .i64 t] w (.int .i64 (lerpV a b t)) := by
  obtain ⟨h1, h2, h3, h4, h5⟩ := lerp_bounds a b t a0 a1 b0 b1 t0 t1
  go_enter Try.func97, Try.ntmps97
  go_wp2_with fail
  refine (nunitQ t _).mono ?_
  rintro e w' ⟨rfl, m, rfl⟩
  rw [lim_id t0 t1]
  go_wp2_with fail
  refine (clampQ a (-1099511627776) 1099511627776 _).mono ?_
  rintro e w' ⟨rfl, m2, rfl⟩
  rw [clamp_wide a a0 a1]
  go_wp2_with fail
  refine (clampQ b (-1099511627776) 1099511627776 _).mono ?_
  rintro e w' ⟨rfl, m3, rfl⟩
  rw [clamp_wide b b0 b1]
  go_wp2_with fail
  refine (divQ (a * (65535 - t) + b * t) 65535 _ (by omega) (by omega) (by omega) (by omega)).mono ?_
  rintro e w' ⟨rfl, m4, rfl⟩
  go_wp2
  go_ret
  exact ⟨rfl, _, rfl⟩
end Go.Proofs.Ytmgpmpiondciiaa.Adj
