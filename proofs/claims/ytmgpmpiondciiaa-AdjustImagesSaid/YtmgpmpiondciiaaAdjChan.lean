/- The channels' functions of package adjust (levels, exposure, the closures), as contracts. No condition but the bounds of each theorem. -/
import Derived.Test.YtmgpmpiondciiaaAdjQuiet
namespace Go.Proofs.Ytmgpmpiondciiaa.Adj
open Go.RowKit Go.Proofs.Ytmgpmpiondciiaa.PAdjustImages Go.Proofs.YtmgpmpiondciiaaW.PrintWords Go.Proofs.YtmgpmpiondciiaaW.PrintMore Go.Proofs.Ytmgpmpiondciiaa.Plain

/-! ### AdInvert -/
theorem invertQ (c : Int) (w : World) (h0 : 0 ≤ c) (h1 : c ≤ 65535) : Qt 76 #[.int .i64 c] w (.int .i64 (65535 - c)) := by
  go_enter Try.func76, Try.ntmps76
  go_wp2
  go_ret
  exact ⟨rfl, 0, rfl⟩

/-! ### AdLevels -/
def levT (b w c : Int) : Int := lim (rdiv ((c - b) * 65535) (w - b))
def levU (t g : Int) : Int := rdiv (65535 * t * g) (t * g + 16 * (65535 - t))
def levelsV (b w g lo hi c : Int) : Int := lerpV lo hi (levU (levT b w c) g)
theorem levU_bounds (t g : Int) (t0 : 0 ≤ t) (t1 : t ≤ 65535) (g0 : 1 ≤ g) (g1 : g ≤ 256) :
    0 ≤ t * g ∧ t * g ≤ 16776960 ∧ t ≤ t * g ∧ 65535 * t * g = 65535 * (t * g) ∧ 0 < t * g + 16 * (65535 - t) ∧ 0 ≤ levU t g ∧ levU t g ≤ 65535 := by
  have h1 : t * g ≤ t * 256 := Int.mul_le_mul_of_nonneg_left g1 t0
  have h2 : t * 1 ≤ t * g := Int.mul_le_mul_of_nonneg_left g0 t0
  have e : 65535 * t * g = 65535 * (t * g) := Int.mul_assoc _ _ _
  have hp : 0 < t * g + 16 * (65535 - t) := by omega
  refine ⟨by omega, by omega, by omega, e, hp, ?_⟩
  unfold levU
  rw [e]
  exact rdiv_between _ _ 0 65535 hp (by omega) (by omega)
set_option maxRecDepth 100000 in
set_option maxHeartbeats 1600000 in
theorem levelsQ (ad : Addr) (cap : Nat) (p0 p1 p2 p3 p4 c : Int) (w : World) (hp0 : w.cell? ad = some (.int .i64 p0)) (hp1 : w.cell? ⟨ad.block, ad.off + 1, none⟩ = some (.int .i64 p1)) (hp2 : w.cell? ⟨ad.block, ad.off + 2, none⟩ = some (.int .i64 p2))
    (hp3 : w.cell? ⟨ad.block, ad.off + 3, none⟩ = some (.int .i64 p3)) (hp4 : w.cell? ⟨ad.block, ad.off + 4, none⟩ = some (.int .i64 p4)) (c0 : 0 ≤ c) (c1 : c ≤ 65535) (b0 : 0 ≤ p0) (b1 : p0 < p1) (b2 : p1 ≤ 65535) (g0 : 1 ≤ p2) (g1 : p2 ≤ 256) (l0 : 0 ≤ p3) (l1 : p3 ≤ 65535) (h0 : 0 ≤ p4) (h1 : p4 ≤ 65535) :
    Qt 78 #[.slice (some ad) 5 cap, .int .i64 c] w (.int .i64 (levelsV p0 p1 p2 p3 p4 c)) := by
  obtain ⟨t, ht⟩ : ∃ t, t = levT p0 p1 c := ⟨_, rfl⟩
  have htr : 0 ≤ t ∧ t ≤ 65535 := by rw [ht]; exact lim_range _
  obtain ⟨t0, t1⟩ := htr
  obtain ⟨u0, u1, u2, u3, u4, u5, u6⟩ := levU_bounds t p2 t0 t1 g0 g1
  have e : levelsV p0 p1 p2 p3 p4 c = lerpV p3 p4 (levU t p2) := by rw [ht]; rfl
  rw [e]
  have HT := Aside0.mk ht
  have H3 := Aside0.mk u3
  clear e ht u3
  go_enter Try.func78, Try.ntmps78
  go_wp2
  go_quiet (fail)
  go_wp2_with fail
  refine (divQ ((c - p0) * 65535) (p1 - p0) _ (by omega) (by omega) (by omega) (by omega)).mono ?_
  rintro e w' ⟨rfl, m, rfl⟩
  go_wp2_with fail
  refine (limQ _ _).mono ?_
  rintro e w' ⟨rfl, m2, rfl⟩
  rw [show lim (rdiv ((c - p0) * 65535) (p1 - p0)) = t from HT.out.symm]
  dsimp only
  go_wp2_with fail
  have e1 := wi (65535 * t) (by omega) (by omega)
  have e2 := wi (65535 * t * p2) (by rw [H3.out]; omega) (by rw [H3.out]; omega)
  have e3 := wi (t * p2) (by omega) (by omega)
  have e4 := wi (65535 - t) (by omega) (by omega)
  have e5 := wi (16 * (65535 - t)) (by omega) (by omega)
  have e6 := wi (t * p2 + 16 * (65535 - t)) (by omega) (by omega)
  have D1 := fun w => divQ (65535 * t * p2) (t * p2 + 16 * (65535 - t)) w (by omega) (by omega) (by rw [H3.out]; omega) (by rw [H3.out]; omega)
  have D2 := fun w => lerpQ p3 p4 (levU t p2) w l0 l1 h0 h1 u5 u6
  rw [show rdiv (65535 * t * p2) (t * p2 + 16 * (65535 - t)) = levU t p2 from rfl] at D1
  go_quiet (first | (go_at_call 60; first | exact Qt.at (D1 _) | exact Qt.at2 (D1 _)) | (go_at_call 97; first | exact Qt.at (D2 _) | exact Qt.at2 (D2 _)))
  go_wp2
  go_ret
  refine ⟨rfl, ?_⟩
  (try simp only [World.drewN_drewN])
  exact ⟨_, rfl⟩

theorem levelsQ' (ca ad : Addr) (cap : Nat) (p0 p1 p2 p3 p4 c : Int) (w : World) (hca : w.cell? ca = some (.slice (some ad) 5 cap)) (hp0 : w.cell? ad = some (.int .i64 p0)) (hp1 : w.cell? ⟨ad.block, ad.off + 1, none⟩ = some (.int .i64 p1)) (hp2 : w.cell? ⟨ad.block, ad.off + 2, none⟩ = some (.int .i64 p2))
    (hp3 : w.cell? ⟨ad.block, ad.off + 3, none⟩ = some (.int .i64 p3)) (hp4 : w.cell? ⟨ad.block, ad.off + 4, none⟩ = some (.int .i64 p4)) (c0 : 0 ≤ c) (c1 : c ≤ 65535) (b0 : 0 ≤ p0) (b1 : p0 < p1) (b2 : p1 ≤ 65535) (g0 : 1 ≤ p2) (g1 : p2 ≤ 256) (l0 : 0 ≤ p3) (l1 : p3 ≤ 65535) (h0 : 0 ≤ p4) (h1 : p4 ≤ 65535) :
    Qt 77 #[.int .i64 c, .pointer (some ca)] w (.int .i64 (levelsV p0 p1 p2 p3 p4 c)) := by
  have D := levelsQ ad cap p0 p1 p2 p3 p4 c w hp0 hp1 hp2 hp3 hp4 c0 c1 b0 b1 b2 g0 g1 l0 l1 h0 h1
  have HD := Lib.hid D
  clear D hp0 hp1 hp2 hp3 hp4
  go_enter Try.func77, Try.ntmps77
  go_wp2_with fail
  refine HD.out.mono ?_
  rintro e w' ⟨rfl, m, rfl⟩
  go_wp2
  go_ret
  exact ⟨rfl, m, rfl⟩

/-! ### AdBright -/
def brightV (br ct c : Int) : Int := lim (32768 + rdiv ((c + br - 32768) * (65535 + ct)) 65535)
theorem bright_small (x y : Int) (x0 : -98303 ≤ x) (x1 : x ≤ 98302) (y0 : 0 ≤ y) (y1 : y ≤ 131070) : -13000000000 ≤ x * y ∧ x * y ≤ 13000000000 ∧ -200000 ≤ rdiv (x * y) 65535 ∧ rdiv (x * y) 65535 ≤ 200000 := by
  have h1 : x * y ≤ 98302 * y := Int.mul_le_mul_of_nonneg_right x1 y0
  have h2 : -98303 * y ≤ x * y := Int.mul_le_mul_of_nonneg_right x0 y0
  have := rdiv_between (x * y) 65535 (-200000) 200000 (by omega) (by omega) (by omega)
  omega
set_option maxRecDepth 100000 in
set_option maxHeartbeats 1600000 in
theorem brightQ (ca ad : Addr) (cap : Nat) (p0 p1 c : Int) (w : World) (hca : w.cell? ca = some (.slice (some ad) 2 cap)) (hp0 : w.cell? ad = some (.int .i64 p0)) (hp1 : w.cell? ⟨ad.block, ad.off + 1, none⟩ = some (.int .i64 p1)) (c0 : 0 ≤ c) (c1 : c ≤ 65535) (b0 : -65535 ≤ p0) (b1 : p0 ≤ 65535) (d0 : -65535 ≤ p1) (d1 : p1 ≤ 65535) :
    Qt 80 #[.int .i64 c, .pointer (some ca)] w (.int .i64 (brightV p0 p1 c)) := by
  obtain ⟨x0, x1, x2, x3⟩ := bright_small (c + p0 - 32768) (65535 + p1) (by omega) (by omega) (by omega) (by omega)
  have D1 := fun w => divQ ((c + p0 - 32768) * (65535 + p1)) 65535 w (by omega) (by omega) (by omega) (by omega)
  have D2 := fun w => limQ (32768 + rdiv ((c + p0 - 32768) * (65535 + p1)) 65535) w
  have e1 := wi (c + p0) (by omega) (by omega)
  have e2 := wi (c + p0 - 32768) (by omega) (by omega)
  have e3 := wi (65535 + p1) (by omega) (by omega)
  have e4 := wi ((c + p0 - 32768) * (65535 + p1)) (by omega) (by omega)
  have e5 := wi (32768 + rdiv ((c + p0 - 32768) * (65535 + p1)) 65535) (by omega) (by omega)
  have H1 := Lib.hid D1
  have H2 := Lib.hid D2
  clear D1 D2
  go_enter Try.func80, Try.ntmps80
  go_wp2
  go_quiet (first | (go_at_call 60; first | exact Qt.at (H1.out _) | exact Qt.at2 (H1.out _)) | (go_at_call 65; first | exact Qt.at (H2.out _) | exact Qt.at2 (H2.out _)))
  go_wp2
  go_ret
  refine ⟨rfl, ?_⟩
  (try simp only [World.drewN_drewN])
  exact ⟨_, rfl⟩

/-! ### AdPosterize -/
def postV (n c : Int) : Int := rdiv (rdiv (c * n) 65535 * 65535) n
theorem post_bounds (n c : Int) (n0 : 1 ≤ n) (n1 : n ≤ 255) (c0 : 0 ≤ c) (c1 : c ≤ 65535) : 0 ≤ c * n ∧ c * n ≤ 16711425 ∧ 0 ≤ rdiv (c * n) 65535 ∧ rdiv (c * n) 65535 ≤ n ∧ 0 ≤ postV n c ∧ postV n c ≤ 65535 := by
  have h1 : c * n ≤ 65535 * n := Int.mul_le_mul_of_nonneg_right c1 (by omega)
  have h0 : 0 ≤ c * n := Int.mul_nonneg c0 (by omega)
  obtain ⟨k0, k1⟩ := rdiv_between (c * n) 65535 0 n (by omega) (by omega) (by omega)
  have := rdiv_between (rdiv (c * n) 65535 * 65535) n 0 65535 (by omega) (by omega) (by omega)
  unfold postV
  omega
set_option maxRecDepth 100000 in
set_option maxHeartbeats 1600000 in
theorem postQ (ca : Addr) (n c : Int) (w : World) (hca : w.cell? ca = some (.int .i64 n)) (c0 : 0 ≤ c) (c1 : c ≤ 65535) (n0 : 1 ≤ n) (n1 : n ≤ 255) : Qt 84 #[.int .i64 c, .pointer (some ca)] w (.int .i64 (postV n c)) := by
  obtain ⟨x0, x1, x2, x3, _, _⟩ := post_bounds n c n0 n1 c0 c1
  have D1 := fun w => divQ (c * n) 65535 w (by omega) (by omega) (by omega) (by omega)
  have D2 := fun w => divQ (rdiv (c * n) 65535 * 65535) n w (by omega) (by omega) (by omega) (by omega)
  have e1 := wi (c * n) (by omega) (by omega)
  have e2 := wi (rdiv (c * n) 65535 * 65535) (by omega) (by omega)
  have H1 := Lib.hid D1
  have H2 := Lib.hid D2
  clear D1 D2
  go_enter Try.func84, Try.ntmps84
  go_wp2
  go_quiet (first | (go_at_call 60; with_reducible first | exact Qt.at (H1.out _) | exact Qt.at2 (H1.out _) | exact Qt.at (H2.out _) | exact Qt.at2 (H2.out _)))
  go_wp2
  go_ret
  refine ⟨rfl, ?_⟩
  (try simp only [World.drewN_drewN])
  exact ⟨_, rfl⟩

/-! ### AdMixer: a row -/
def mixerV (a b c r g bl : Int) : Int := lim (rdiv (a * r + b * g + c * bl) 65535)
theorem mixer_small (a r : Int) (a0 : -262140 ≤ a) (a1 : a ≤ 262140) (r0 : 0 ≤ r) (r1 : r ≤ 65535) : -17179344900 ≤ a * r ∧ a * r ≤ 17179344900 := by
  have h1 : a * r ≤ 262140 * r := Int.mul_le_mul_of_nonneg_right a1 r0
  have h2 : -262140 * r ≤ a * r := Int.mul_le_mul_of_nonneg_right a0 r0
  omega
set_option maxRecDepth 100000 in
set_option maxHeartbeats 1600000 in
theorem mixerQ (pa ad : Addr) (len cap : Nat) (a b c r g bl : Int) (w : World) (hl : 3 ≤ len) (hp0 : w.cell? ad = some (.int .i64 a)) (hp1 : w.cell? ⟨ad.block, ad.off + 1, none⟩ = some (.int .i64 b)) (hp2 : w.cell? ⟨ad.block, ad.off + 2, none⟩ = some (.int .i64 c))
    (hr : w.cell? pa = some (.int .i64 r)) (hg : w.cell? ⟨pa.block, pa.off + 1, none⟩ = some (.int .i64 g)) (hb : w.cell? ⟨pa.block, pa.off + 2, none⟩ = some (.int .i64 bl))
    (a0 : -262140 ≤ a) (a1 : a ≤ 262140) (b0 : -262140 ≤ b) (b1 : b ≤ 262140) (c0 : -262140 ≤ c) (c1 : c ≤ 262140) (r0 : 0 ≤ r) (r1 : r ≤ 65535) (g0 : 0 ≤ g) (g1 : g ≤ 65535) (l0 : 0 ≤ bl) (l1 : bl ≤ 65535) :
    Qt 85 #[.slice (some ad) len cap, .pointer (some pa)] w (.int .i64 (mixerV a b c r g bl)) := by
  obtain ⟨m0, m1⟩ := mixer_small a r a0 a1 r0 r1
  obtain ⟨m2, m3⟩ := mixer_small b g b0 b1 g0 g1
  obtain ⟨m4, m5⟩ := mixer_small c bl c0 c1 l0 l1
  have D1 := fun w => divQ (a * r + b * g + c * bl) 65535 w (by omega) (by omega) (by omega) (by omega)
  have D2 := fun w => limQ (rdiv (a * r + b * g + c * bl) 65535) w
  have e1 := wi (a * r) (by omega) (by omega)
  have e2 := wi (b * g) (by omega) (by omega)
  have e3 := wi (c * bl) (by omega) (by omega)
  have e4 := wi (a * r + b * g) (by omega) (by omega)
  have e5 := wi (a * r + b * g + c * bl) (by omega) (by omega)
  have k0 : (0 : Int) < (len : Int) := by omega
  have k1 : (1 : Int) < (len : Int) := by omega
  have k2 : (2 : Int) < (len : Int) := by omega
  have H1 := Lib.hid D1
  have H2 := Lib.hid D2
  clear D1 D2
  go_enter Try.func85, Try.ntmps85
  go_wp2
  go_quiet (first | (go_at_call 60; first | exact Qt.at (H1.out _) | exact Qt.at2 (H1.out _)) | (go_at_call 65; first | exact Qt.at (H2.out _) | exact Qt.at2 (H2.out _)))
  go_wp2
  go_ret
  refine ⟨rfl, ?_⟩
  (try simp only [World.drewN_drewN])
  exact ⟨_, rfl⟩

/-! ### AdExposure -/
def factors : List Int := [65536, 68438, 71468, 74632, 77936, 81386, 84990, 88752, 92682, 96785, 101070, 105545, 110218, 115098, 120194, 125515]
def factor (r : Nat) : Int := factors.getD r 0
theorem factor_range (r : Nat) (h : r < 16) : 65536 ≤ factor r ∧ factor r ≤ 125515 := by
  have key : ∀ r : Fin 16, 65536 ≤ factor r ∧ factor r ≤ 125515 := by decide
  exact key ⟨r, h⟩
theorem factor_cell (w : World) (r : Nat) (h : r < 16) : (w.alloc (.cells #[.int .i64 65536, .int .i64 68438, .int .i64 71468, .int .i64 74632, .int .i64 77936, .int .i64 81386, .int .i64 84990, .int .i64 88752, .int .i64 92682, .int .i64 96785, .int .i64 101070, .int .i64 105545, .int .i64 110218, .int .i64 115098, .int .i64 120194, .int .i64 125515] 90)).cell? ⟨w.heap.size, r, none⟩ = some (.int .i64 (factor r)) := by
  have hs : r = 0 ∨ r = 1 ∨ r = 2 ∨ r = 3 ∨ r = 4 ∨ r = 5 ∨ r = 6 ∨ r = 7 ∨ r = 8 ∨ r = 9 ∨ r = 10 ∨ r = 11 ∨ r = 12 ∨ r = 13 ∨ r = 14 ∨ r = 15 := by omega
  rcases hs with rfl | rfl | rfl | rfl | rfl | rfl | rfl | rfl | rfl | rfl | rfl | rfl | rfl | rfl | rfl | rfl <;> simp [factor, factors]
def expoV (steps off c : Int) : Int :=
  if 0 ≤ steps / 16 then lim (rdiv (c * factor (steps - 16 * (steps / 16)).toNat * 2 ^ (steps / 16).toNat) 65536 + off)
  else lim (rdiv (c * factor (steps - 16 * (steps / 16)).toNat) (65536 * 2 ^ (-(steps / 16)).toNat) + off)
theorem pow_small (n : Nat) (h : n ≤ 8) : 1 ≤ (2 : Int) ^ n ∧ (2 : Int) ^ n ≤ 256 := by
  have key : ∀ n : Fin 9, 1 ≤ (2 : Int) ^ (n : Nat) ∧ (2 : Int) ^ (n : Nat) ≤ 256 := by decide
  exact key ⟨n, by omega⟩
theorem expo_small (c f p : Int) (c0 : 0 ≤ c) (c1 : c ≤ 65535) (f0 : 65536 ≤ f) (f1 : f ≤ 125515) (p0 : 1 ≤ p) (p1 : p ≤ 256) :
    0 ≤ c * f ∧ c * f ≤ 8225625525 ∧ 0 ≤ c * f * p ∧ c * f * p ≤ 2105760134400 ∧ 0 ≤ rdiv (c * f * p) 65536 ∧ rdiv (c * f * p) 65536 ≤ 33554432 ∧ 65536 ≤ 65536 * p ∧ 65536 * p ≤ 16777216 ∧ 0 ≤ rdiv (c * f) (65536 * p) ∧ rdiv (c * f) (65536 * p) ≤ 33554432 := by
  have h1 : c * f ≤ 65535 * f := Int.mul_le_mul_of_nonneg_right c1 (by omega)
  have h0 : 0 ≤ c * f := Int.mul_nonneg c0 (by omega)
  have h2 : c * f * p ≤ c * f * 256 := Int.mul_le_mul_of_nonneg_left p1 h0
  have h3 : 0 ≤ c * f * p := Int.mul_nonneg h0 (by omega)
  obtain ⟨a0, a1⟩ := rdiv_between (c * f * p) 65536 0 33554432 (by omega) (by omega) (by omega)
  obtain ⟨b0, b1⟩ := rdiv_between (c * f) (65536 * p) 0 33554432 (by omega) (by omega) (by omega)
  refine ⟨h0, by omega, h3, by omega, a0, a1, by omega, by omega, b0, b1⟩
set_option maxRecDepth 100000 in
set_option maxHeartbeats 1600000 in
theorem expoB (ad : Addr) (cap : Nat) (p0 p1 c q : Int) (r : Nat) (w : World) (hp0 : w.cell? ad = some (.int .i64 p0)) (hp1 : w.cell? ⟨ad.block, ad.off + 1, none⟩ = some (.int .i64 p1)) (c0 : 0 ≤ c) (c1 : c ≤ 65535) (b0 : -128 ≤ p0) (b1 : p0 ≤ 128) (d0 : -65535 ≤ p1) (d1 : p1 ≤ 65535)
    (hq : p0 / 16 = q) (hr : p0 - 16 * q = r) :
    Calls Try.prog 88 #[.slice (some ad) 2 cap, .int .i64 c] w fun e w' => e = .returned (.int .i64 (if 0 ≤ q then lim (rdiv (c * factor r * 2 ^ q.toNat) 65536 + p1) else lim (rdiv (c * factor r) (65536 * 2 ^ (-q).toNat) + p1))) ∧ Below w.heap.size w w' := by
  have hq0 := fun o => kept (below_alloc (Below.refl _ w) o) hp0
  have hq1 := fun o => kept (below_alloc (Below.refl _ w) o) hp1
  have q0 : -8 ≤ q := by omega
  have q1 : q ≤ 8 := by omega
  have r1 : r < 16 := by omega
  have hc := factor_cell w r r1
  obtain ⟨f0, f1⟩ := factor_range r r1
  have k0 : (0 : Int) ≤ (r : Int) := by omega
  have k1 : (r : Int) < 16 := by omega
  have HB := Aside0.mk (Below.refl w.heap.size w)
  by_cases hs : 0 ≤ q
  · rw [if_pos hs]
    obtain ⟨p, hp⟩ : ∃ p : Int, (2 : Int) ^ q.toNat = p := ⟨_, rfl⟩
    obtain ⟨pp0, pp1⟩ := pow_small q.toNat (by omega)
    rw [hp] at pp0 pp1
    obtain ⟨m0, m1, m2, m3, m4, m5, _, _, _, _⟩ := expo_small c (factor r) p c0 c1 f0 f1 pp0 pp1
    rw [hp]
    have D1 := fun w => divQ (c * factor r * p) 65536 w (by omega) (by omega) (by omega) (by omega)
    have D2 := fun w => limQ (rdiv (c * factor r * p) 65536 + p1) w
    have W1 := wr (c * factor r) (by omega) (by omega)
    have W2 := wr (c * factor r * p) (by omega) (by omega)
    have e1 := wi (rdiv (c * factor r * p) 65536 + p1) (by omega) (by omega)
    have H1 := Lib.hid D1
    have H2 := Lib.hid D2
    clear D1 D2
    go_enter Try.func88, Try.ntmps88
    go_wp2
    go_quiet (first | (go_at_call 60; first | exact Qt.at (H1.out _) | exact Qt.at2 (H1.out _)) | (go_at_call 65; first | exact Qt.at (H2.out _) | exact Qt.at2 (H2.out _)))
    go_wp2
    go_ret
    exact ⟨rfl, by repeat (first | exact HB.out | refine below_alloc ?_ _ | refine pw_below_drewN ?_ _ | refine below_drew1 ?_)⟩
  · rw [if_neg hs]
    obtain ⟨p, hp⟩ : ∃ p : Int, (2 : Int) ^ (-q).toNat = p := ⟨_, rfl⟩
    obtain ⟨pp0, pp1⟩ := pow_small (-q).toNat (by omega)
    rw [hp] at pp0 pp1
    obtain ⟨m0, m1, _, _, _, _, m2, m3, m4, m5⟩ := expo_small c (factor r) p c0 c1 f0 f1 pp0 pp1
    rw [hp]
    have D1 := fun w => divQ (c * factor r) (65536 * p) w (by omega) (by omega) (by omega) (by omega)
    have D2 := fun w => limQ (rdiv (c * factor r) (65536 * p) + p1) w
    have W1 := wr (c * factor r) (by omega) (by omega)
    have W2 := wr (65536 * p) (by omega) (by omega)
    have e1 := wi (rdiv (c * factor r) (65536 * p) + p1) (by omega) (by omega)
    have H1 := Lib.hid D1
    have H2 := Lib.hid D2
    clear D1 D2
    go_enter Try.func88, Try.ntmps88
    go_wp2
    go_quiet (first | (go_at_call 60; first | exact Qt.at (H1.out _) | exact Qt.at2 (H1.out _)) | (go_at_call 65; first | exact Qt.at (H2.out _) | exact Qt.at2 (H2.out _)))
    go_wp2
    go_ret
    exact ⟨rfl, by repeat (first | exact HB.out | refine below_alloc ?_ _ | refine pw_below_drewN ?_ _ | refine below_drew1 ?_)⟩
theorem expoB' (ca ad : Addr) (cap : Nat) (p0 p1 c : Int) (w : World) (hca : w.cell? ca = some (.slice (some ad) 2 cap)) (hp0 : w.cell? ad = some (.int .i64 p0)) (hp1 : w.cell? ⟨ad.block, ad.off + 1, none⟩ = some (.int .i64 p1)) (c0 : 0 ≤ c) (c1 : c ≤ 65535) (b0 : -128 ≤ p0) (b1 : p0 ≤ 128) (d0 : -65535 ≤ p1) (d1 : p1 ≤ 65535) :
    Calls Try.prog 87 #[.int .i64 c, .pointer (some ca)] w fun e w' => e = .returned (.int .i64 (expoV p0 p1 c)) ∧ Below w.heap.size w w' := by
  have D : Calls Try.prog 88 #[.slice (some ad) 2 cap, .int .i64 c] w fun e w' => e = .returned (.int .i64 (expoV p0 p1 c)) ∧ Below w.heap.size w w' := expoB ad cap p0 p1 c (p0 / 16) (p0 - 16 * (p0 / 16)).toNat w hp0 hp1 c0 c1 b0 b1 d0 d1 rfl (by omega)
  have HD := Lib.hid D
  clear D hp0 hp1
  go_enter Try.func87, Try.ntmps87
  go_wp2_with fail
  refine HD.out.mono ?_
  rintro e w' ⟨rfl, hb⟩
  have HB := Aside0.mk hb
  clear hb
  go_wp2
  go_ret
  exact ⟨rfl, HB.out⟩
end Go.Proofs.Ytmgpmpiondciiaa.Adj
