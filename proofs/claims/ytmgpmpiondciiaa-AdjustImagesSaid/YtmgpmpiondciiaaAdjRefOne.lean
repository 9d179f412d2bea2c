/- The reference's Lerp, expose and single as contracts. No condition but the bounds of each theorem. -/
import Derived.Test.YtmgpmpiondciiaaAdjRefAt
import Derived.Test.YtmgpmpiondciiaaAdjAll
namespace Go.Proofs.Ytmgpmpiondciiaa.Adj
open Go.RowKit Go.Proofs.Ytmgpmpiondciiaa.PAdjustImages Go.Proofs.YtmgpmpiondciiaaW.PrintWords Go.Proofs.YtmgpmpiondciiaaW.PrintMore Go.Proofs.Ytmgpmpiondciiaa.Plain
attribute [local go_sem] max2_int min2_int max_two min_two
theorem rclampQ (x lo hi : Int) (w : World) : Qt 71 #[.int .i64 x, .int .i64 lo, .int .i64 hi] w (.int .i64 (mn hi (mx x lo))) := by
  obtain ⟨z, hz⟩ : ∃ z, (if x < lo then lo else x) = z := ⟨_, rfl⟩
  obtain ⟨y, hy⟩ : ∃ y, (if z < hi then z else hi) = y := ⟨_, rfl⟩
  have e : mn hi (mx x lo) = y := by
    unfold mn mx
    rw [hz, hy]
  rw [e]
  clear e
  go_enter Try.func71, Try.ntmps71
  go_wp2
  go_ret
  exact ⟨rfl, 0, rfl⟩
theorem runitQ (x : Int) (w : World) : Qt 52 #[.int .i64 x] w (.int .i64 (lim x)) := by
  go_enter Try.func52, Try.ntmps52
  go_wp2_with fail
  refine (rclampQ x 0 65535 _).mono ?_
  rintro e w' ⟨rfl, m, rfl⟩
  rw [mnmx_lim]
  go_wp2
  go_ret
  exact ⟨rfl, m, rfl⟩
theorem rlimQ (x : Int) (w : World) : Qt 66 #[.int .i64 x] w (.int .i64 (lim x)) := by
  obtain ⟨z, hz⟩ : ∃ z, (if x < 0 then 0 else x) = z := ⟨_, rfl⟩
  obtain ⟨y, hy⟩ : ∃ y, (if z < 65535 then z else 65535) = y := ⟨_, rfl⟩
  obtain ⟨y2, hy2⟩ : ∃ y, (if 65535 < z then 65535 else z) = y := ⟨_, rfl⟩
  have e : lim x = y := by
    rw [← mnmx_lim]
    unfold mn mx
    rw [hz, hy]
  have e2 : lim x = y2 := by
    rw [← mnmx_lim2]
    unfold mn mx
    rw [hz, hy2]
  rw [e]
  obtain rfl : y = y2 := e.symm.trans e2
  clear e e2
  go_enter Try.func66, Try.ntmps66
  go_wp2
  go_ret
  exact ⟨rfl, 0, rfl⟩
set_option maxRecDepth 100000 in
theorem rlerpQ (a b t : Int) (w : World) (a0 : 0 ≤ a) (a1 : a ≤ 65535) (b0 : 0 ≤ b) (b1 : b ≤ 65535) (t0 : 0 ≤ t) (t1 : t ≤ 65535) : Qt 101 #[.int .i64 a, .int .i64 b, .int .i64 t] w (.int .i64 (lerpV a b t)) := by
  obtain ⟨h1, h2, h3, h4, h5⟩ := lerp_bounds a b t a0 a1 b0 b1 t0 t1
  go_enter Try.func101, Try.ntmps101
  go_wp2_with fail
  refine (rclampQ a (-1099511627776) 1099511627776 _).mono ?_
  rintro e w' ⟨rfl, m2, rfl⟩
  rw [clamp_wide a a0 a1]
  go_wp2_with fail
  refine (rclampQ b (-1099511627776) 1099511627776 _).mono ?_
  rintro e w' ⟨rfl, m3, rfl⟩
  rw [clamp_wide b b0 b1]
  go_wp2_with fail
  refine (runitQ t _).mono ?_
  rintro e w' ⟨rfl, m, rfl⟩
  rw [lim_id t0 t1]
  go_wp2_with fail
  refine (rdivR (a * (65535 - t) + b * t) 65535 _ (by omega) (by omega) (by omega) (by omega)).mono ?_
  rintro e w' ⟨rfl, m4, rfl⟩
  go_wp2
  go_ret
  exact ⟨rfl, _, rfl⟩
theorem rfloorB (a : Int) (w : World) (h0 : -128 ≤ a) (h1 : a ≤ 128) : Calls Try.prog 72 #[.int .i64 a, .int .i64 16] w fun e w' => e = .returned (.int .i64 (a / 16)) ∧ Below w.heap.size w w' := by
  obtain ⟨f, hf, f0, f1, _, _⟩ := reffloor_f 1 a 16 (by omega) (by omega) (by omega) (by omega)
  obtain rfl : f = a / 16 := by omega
  exact (imageeditorref01_Floor.calls 1 a 16 _ w hf).mono fun _ _ ⟨he, hd⟩ => ⟨he, by obtain ⟨m, rfl⟩ := hd.out; exact pw_below_drewN (Below.refl _ _) m⟩
/-- What the reference's expose answers. -/
def exV (steps c : Int) : Int :=
  if 0 ≤ steps / 16 then rdiv (c * factor (steps - 16 * (steps / 16)).toNat * 2 ^ (steps / 16).toNat) 65536
  else rdiv (c * factor (steps - 16 * (steps / 16)).toNat) (65536 * 2 ^ (-(steps / 16)).toNat)
theorem expo_ex (steps off c : Int) : expoV steps off c = lim (exV steps c + off) := by
  unfold expoV exV
  split <;> rfl
theorem factor_cell3 (w : World) (r : Nat) (h : r < 16) : (w.alloc (.cells #[.int .i64 65536, .int .i64 68438, .int .i64 71468, .int .i64 74632, .int .i64 77936, .int .i64 81386, .int .i64 84990, .int .i64 88752, .int .i64 92682, .int .i64 96785, .int .i64 101070, .int .i64 105545, .int .i64 110218, .int .i64 115098, .int .i64 120194, .int .i64 125515] 3)).cell? ⟨w.heap.size, r, none⟩ = some (.int .i64 (factor r)) := by
  have hs : r = 0 ∨ r = 1 ∨ r = 2 ∨ r = 3 ∨ r = 4 ∨ r = 5 ∨ r = 6 ∨ r = 7 ∨ r = 8 ∨ r = 9 ∨ r = 10 ∨ r = 11 ∨ r = 12 ∨ r = 13 ∨ r = 14 ∨ r = 15 := by omega
  rcases hs with rfl | rfl | rfl | rfl | rfl | rfl | rfl | rfl | rfl | rfl | rfl | rfl | rfl | rfl | rfl | rfl <;> simp [factor, factors]
theorem pow_up (i : Nat) : (2 : Int) ^ (i + 1) = 2 ^ i * 2 := Int.pow_succ 2 i
set_option maxRecDepth 100000 in
set_option maxHeartbeats 8000000 in
theorem expose_any (c st q : Int) (r n m : Nat) (w : World) (c0 : 0 ≤ c) (c1 : c ≤ 65535) (b0 : -128 ≤ st) (b1 : st ≤ 128) (hq : st / 16 = q) (hr : st - 16 * q = r) (hn : n = q.toNat) (hm : m = (-q).toNat) :
    Calls Try.prog 102 #[.int .i64 c, .int .i64 st] w fun e w' => e = .returned (.int .i64 (rdiv (c * factor r * 2 ^ n) (65536 * 2 ^ m))) ∧ Below w.heap.size w w' := by
  have q0 : -8 ≤ q := by omega
  have q1 : q ≤ 8 := by omega
  have r1 : r < 16 := by omega
  obtain ⟨f0, f1⟩ := factor_range r r1
  obtain ⟨p, hp⟩ : ∃ p : Int, (2 : Int) ^ n = p := ⟨_, rfl⟩
  obtain ⟨d, hd⟩ : ∃ d : Int, (2 : Int) ^ m = d := ⟨_, rfl⟩
  obtain ⟨P0, P1⟩ := pow_small n (by omega)
  obtain ⟨D0, D1⟩ := pow_small m (by omega)
  rw [hp] at P0 P1
  rw [hd] at D0 D1
  have m0 := expo_small c (factor r) p c0 c1 f0 f1 P0 P1
  have W1 := wr (c * factor r) (by omega) (by omega)
  have W2 := wr (c * factor r * p) (by omega) (by omega)
  have W3 := wr (65536 * d) (by omega) (by omega)
  have e1 := wi (16 * q) (by omega) (by omega)
  have e2 := wi (st - 16 * q) (by omega) (by omega)
  have e3 := wi (-q) (by omega) (by omega)
  have HD := Aside0.mk (fun w => rdivR (c * factor r * p) (65536 * d) w (by omega) (by omega) (by omega) (by omega))
  have HF : Aside0 (∀ w, Calls Try.prog 72 #[.int .i64 st, .int .i64 16] w fun e w' => e = .returned (.int .i64 q) ∧ Below w.heap.size w w') := ⟨fun w => by rw [← hq]; exact rfloorB st w b0 b1⟩
  have HP := Aside0.mk hp
  have HQ := Aside0.mk hd
  have HN := Aside0.mk hn
  have HM := Aside0.mk hm
  have HR := Aside0.mk hr
  rw [hp, hd]
  clear m0 hp hd hq f0 f1 hn hm
  rw [hr] at e2
  clear hr
  go_enter Try.func102, Try.ntmps102
  go_wp2_with fail
  have HA : Aside0 (Below w.heap.size w (w.alloc (.cells #[.int .i64 65536, .int .i64 68438, .int .i64 71468, .int .i64 74632, .int .i64 77936, .int .i64 81386, .int .i64 84990, .int .i64 88752, .int .i64 92682, .int .i64 96785, .int .i64 101070, .int .i64 105545, .int .i64 110218, .int .i64 115098, .int .i64 120194, .int .i64 125515] 3))) := ⟨below_alloc (Below.refl w.heap.size w) _⟩
  have hcell := factor_cell3 w r r1
  refine (HF.out _).mono ?_
  rintro e w1 ⟨rfl, hb⟩
  replace hcell := kept hb hcell
  have HB := Aside0.mk (step HA.out hb)
  have HC := Aside0.mk hcell
  clear HA HF hb hcell
  dsimp only
  go_wp2
  go_loopw [9, 7] (fun a b wr => ∃ (i : Nat) (x y : Int), a = .int .i64 x ∧ x = i ∧ b = .int .i64 y ∧ i ≤ n ∧ Aside0 (2 ^ i = y) ∧ 1 ≤ y ∧ y ≤ 256 ∧ Aside0 (Below w1.heap.size w1 wr)) (fun a _ _ => n - (intOf a).toNat)
  case atStart => exact ⟨0, 0, 1, rfl, rfl, rfl, by omega, ⟨rfl⟩, by omega, by omega, ⟨Below.refl _ _⟩⟩
  case round =>
    obtain ⟨i, x, y, rfl, hx, rfl, hi, HY, y0, y1, HL⟩ := hrel
    by_cases hlt : i < n
    · have b : x < q := by have := HN.out; omega
      have e5 := wi (x + 1) (by omega) (by omega)
      have e6 := wi (y * 2) (by omega) (by omega)
      have HX := Aside0.mk hx
      have h8 := pow_small (i + 1) (by have := HN.out; omega)
      rw [pow_up, HY.out] at h8
      clear hx
      go_wp2
      go_roundw
      case rel => exact ⟨i + 1, x + 1, y * 2, rfl, by have := HX.out; omega, rfl, by omega, ⟨by rw [pow_up, HY.out]⟩, by omega, by omega, HL⟩
      case measure => have := HX.out; simp [intOf]; omega
    · have b : ¬ x < q := by have := HN.out; omega
      obtain rfl : y = p := by rw [← HY.out, ← HP.out, show i = n by omega]
      clear hx hlt hi
      go_wp2
      go_loopw [10, 8] (fun a b wr => ∃ (i : Nat) (x y : Int), a = .int .i64 x ∧ x = i ∧ b = .int .i64 y ∧ i ≤ m ∧ Aside0 (2 ^ i = y) ∧ 1 ≤ y ∧ y ≤ 256 ∧ Aside0 (Below w1.heap.size w1 wr)) (fun a _ _ => m - (intOf a).toNat)
      case atStart => exact ⟨0, 0, 1, rfl, rfl, rfl, by omega, ⟨rfl⟩, by omega, by omega, HL⟩
      case round =>
        clear HL
        obtain ⟨i, x, z, rfl, hx, rfl, hi, HY, z0, z1, HL⟩ := hrel
        by_cases hlt : i < m
        · have b : x < -q := by have := HM.out; omega
          have e5 := wi (x + 1) (by omega) (by omega)
          have e6 := wi (z * 2) (by omega) (by omega)
          have HX := Aside0.mk hx
          have h8 := pow_small (i + 1) (by have := HM.out; omega)
          rw [pow_up, HY.out] at h8
          clear hx
          go_wp2
          go_roundw
          case rel => exact ⟨i + 1, x + 1, z * 2, rfl, by have := HX.out; omega, rfl, by omega, ⟨by rw [pow_up, HY.out]⟩, by omega, by omega, HL⟩
          case measure => have := HX.out; simp [intOf]; omega
        · have b : ¬ x < -q := by have := HM.out; omega
          obtain rfl : z = d := by rw [← HY.out, ← HQ.out, show i = m by omega]
          have hcell : wr.cell? ⟨w.heap.size, (st - 16 * q).toNat, none⟩ = some (.int .i64 (factor r)) := by rw [HR.out]; exact kept HL.out HC.out
          have k2 : 0 ≤ st - 16 * q := by have := HR.out; omega
          have k3 : st - 16 * q < 16 := by have := HR.out; omega
          clear hx hlt hi
          go_wp2_with fail
          refine (HD.out _).mono ?_
          rintro e w5 ⟨rfl, mm, rfl⟩
          dsimp only
          go_wp2
          go_ret
          exact ⟨rfl, pw_below_drewN (step HB.out HL.out) _⟩
theorem expose_ex (c st : Int) (w : World) (c0 : 0 ≤ c) (c1 : c ≤ 65535) (b0 : -128 ≤ st) (b1 : st ≤ 128) : Calls Try.prog 102 #[.int .i64 c, .int .i64 st] w fun e w' => e = .returned (.int .i64 (exV st c)) ∧ Below w.heap.size w w' := by
  have h := expose_any c st (st / 16) (st - 16 * (st / 16)).toNat _ _ w c0 c1 b0 b1 rfl (by omega) rfl rfl
  unfold exV
  by_cases hs : 0 ≤ st / 16
  · rw [if_pos hs]
    rw [show (-(st / 16)).toNat = 0 by omega] at h
    exact h
  · rw [if_neg hs]
    rw [show (st / 16).toNat = 0 by omega, Int.pow_zero, Int.mul_one] at h
    exact h
theorem sing_1 (v : Value) (c : Int) (w : World) (c0 : 0 ≤ c) (c1 : c ≤ 65535) : Calls Try.prog 92 #[.int .i64 1, v, .int .i64 c] w fun e w' => e = .returned (.int .i64 (65535 - c)) ∧ Below w.heap.size w w' := by
  have e1 := wi (65535 - c) (by omega) (by omega)
  have HB := Aside0.mk (Below.refl w.heap.size w)
  go_enter Try.func92, Try.ntmps92
  go_wp2
  go_ret
  exact ⟨rfl, HB.out⟩
set_option maxRecDepth 100000 in
set_option maxHeartbeats 8000000 in
theorem sing_2 (ad : Addr) (cap : Nat) (p0 p1 p2 p3 p4 c : Int) (w : World) (hp0 : w.cell? ad = some (.int .i64 p0)) (hp1 : w.cell? ⟨ad.block, ad.off + 1, none⟩ = some (.int .i64 p1)) (hp2 : w.cell? ⟨ad.block, ad.off + 2, none⟩ = some (.int .i64 p2)) (hp3 : w.cell? ⟨ad.block, ad.off + 3, none⟩ = some (.int .i64 p3)) (hp4 : w.cell? ⟨ad.block, ad.off + 4, none⟩ = some (.int .i64 p4)) (c0 : 0 ≤ c) (c1 : c ≤ 65535) (b0 : 0 ≤ p0) (b1 : p0 < p1) (b2 : p1 ≤ 65535) (g0 : 1 ≤ p2) (g1 : p2 ≤ 256) (l0 : 0 ≤ p3) (l1 : p3 ≤ 65535) (h0 : 0 ≤ p4) (h1 : p4 ≤ 65535) :
    Calls Try.prog 92 #[.int .i64 2, .slice (some ad) 5 cap, .int .i64 c] w fun e w' => e = .returned (.int .i64 (levelsV p0 p1 p2 p3 p4 c)) ∧ Below w.heap.size w w' := by
  obtain ⟨t, ht⟩ : ∃ t, levT p0 p1 c = t := ⟨_, rfl⟩
  have htr : 0 ≤ t ∧ t ≤ 65535 := by rw [← ht]; exact lim_range _
  obtain ⟨t0, t1⟩ := htr
  obtain ⟨u0, u1, u2, u3, u4, u5, u6⟩ := levU_bounds t p2 t0 t1 g0 g1
  have e : levelsV p0 p1 p2 p3 p4 c = lerpV p3 p4 (levU t p2) := by rw [← ht]; rfl
  rw [e]
  have a1 := wi (c - p0) (by omega) (by omega)
  have a2 := wi ((c - p0) * 65535) (by omega) (by omega)
  have a3 := wi (p1 - p0) (by omega) (by omega)
  have e1 := wi (65535 * t) (by omega) (by omega)
  have e2 := wi (65535 * t * p2) (by rw [u3]; omega) (by rw [u3]; omega)
  have e3 := wi (t * p2) (by omega) (by omega)
  have e4 := wi (65535 - t) (by omega) (by omega)
  have e5 := wi (16 * (65535 - t)) (by omega) (by omega)
  have e6 := wi (t * p2 + 16 * (65535 - t)) (by omega) (by omega)
  have D1 := Aside0.mk (fun w => rdivR ((c - p0) * 65535) (p1 - p0) w (by omega) (by omega) (by omega) (by omega))
  have D2 : Aside0 (∀ w, Qt 66 #[.int .i64 (rdiv ((c - p0) * 65535) (p1 - p0))] w (.int .i64 t)) := ⟨fun w => by rw [← ht]; exact rlimQ _ w⟩
  have D3 := Aside0.mk (fun w => rdivR (65535 * t * p2) (t * p2 + 16 * (65535 - t)) w (by omega) (by omega) (by rw [u3]; omega) (by rw [u3]; omega))
  have D4 := Aside0.mk (fun w => rlerpQ p3 p4 (levU t p2) w l0 l1 h0 h1 u5 u6)
  rw [show rdiv (65535 * t * p2) (t * p2 + 16 * (65535 - t)) = levU t p2 from rfl] at D3
  clear e ht u3
  have HB := Aside0.mk (Below.refl w.heap.size w)
  go_enter Try.func92, Try.ntmps92
  go_wp2
  go_quiet (first | (go_at_call 53; with_reducible first | exact Qt.at (D1.out _) | exact Qt.at2 (D1.out _)) | (go_at_call 66; with_reducible first | exact Qt.at (D2.out _) | exact Qt.at2 (D2.out _)))
  go_wp2
  go_quiet (first | (go_at_call 53; with_reducible first | exact Qt.at (D3.out _) | exact Qt.at2 (D3.out _)) | (go_at_call 101; with_reducible first | exact Qt.at (D4.out _) | exact Qt.at2 (D4.out _)))
  go_wp2
  go_ret
  exact ⟨rfl, by with_reducible repeat (first | exact HB.out | refine below_drew1 ?_ | refine pw_below_drewN ?_ _)⟩
set_option maxRecDepth 100000 in
set_option maxHeartbeats 8000000 in
theorem sing_4 (ad : Addr) (cap : Nat) (p0 p1 c : Int) (w : World) (hp0 : w.cell? ad = some (.int .i64 p0)) (hp1 : w.cell? ⟨ad.block, ad.off + 1, none⟩ = some (.int .i64 p1)) (c0 : 0 ≤ c) (c1 : c ≤ 65535) (b0 : -65535 ≤ p0) (b1 : p0 ≤ 65535) (d0 : -65535 ≤ p1) (d1 : p1 ≤ 65535) :
    Calls Try.prog 92 #[.int .i64 4, .slice (some ad) 2 cap, .int .i64 c] w fun e w' => e = .returned (.int .i64 (brightV p0 p1 c)) ∧ Below w.heap.size w w' := by
  obtain ⟨x0, x1, x2, x3⟩ := bright_small (c + p0 - 32768) (65535 + p1) (by omega) (by omega) (by omega) (by omega)
  have D1 := Aside0.mk (fun w => rdivR ((c + p0 - 32768) * (65535 + p1)) 65535 w (by omega) (by omega) (by omega) (by omega))
  have D2 := Aside0.mk (fun w => rlimQ (32768 + rdiv ((c + p0 - 32768) * (65535 + p1)) 65535) w)
  have e1 := wi (c + p0) (by omega) (by omega)
  have e2 := wi (c + p0 - 32768) (by omega) (by omega)
  have e3 := wi (65535 + p1) (by omega) (by omega)
  have e4 := wi ((c + p0 - 32768) * (65535 + p1)) (by omega) (by omega)
  have e5 := wi (32768 + rdiv ((c + p0 - 32768) * (65535 + p1)) 65535) (by omega) (by omega)
  have HB := Aside0.mk (Below.refl w.heap.size w)
  go_enter Try.func92, Try.ntmps92
  go_wp2
  go_quiet (first | (go_at_call 53; with_reducible first | exact Qt.at (D1.out _) | exact Qt.at2 (D1.out _)) | (go_at_call 66; with_reducible first | exact Qt.at (D2.out _) | exact Qt.at2 (D2.out _)))
  go_wp2
  go_ret
  exact ⟨rfl, by with_reducible repeat (first | exact HB.out | refine below_drew1 ?_ | refine pw_below_drewN ?_ _)⟩
set_option maxRecDepth 100000 in
set_option maxHeartbeats 8000000 in
theorem sing_7 (ad : Addr) (cap : Nat) (p0 c : Int) (w : World) (hp0 : w.cell? ad = some (.int .i64 p0)) (c0 : 0 ≤ c) (c1 : c ≤ 65535) (b0 : 2 ≤ p0) (b1 : p0 ≤ 256) :
    Calls Try.prog 92 #[.int .i64 7, .slice (some ad) 1 cap, .int .i64 c] w fun e w' => e = .returned (.int .i64 (postV (p0 - 1) c)) ∧ Below w.heap.size w w' := by
  obtain ⟨n, hn⟩ : ∃ n, p0 - 1 = n := ⟨_, rfl⟩
  obtain ⟨x0, x1, x2, x3, _, _⟩ := post_bounds n c (by omega) (by omega) c0 c1
  have e0 := wi (p0 - 1) (by omega) (by omega)
  rw [hn] at e0
  have e1 := wi (c * n) (by omega) (by omega)
  have e2 := wi (rdiv (c * n) 65535 * 65535) (by omega) (by omega)
  have D1 := Aside0.mk (fun w => rdivR (c * n) 65535 w (by omega) (by omega) (by omega) (by omega))
  have D2 := Aside0.mk (fun w => rdivR (rdiv (c * n) 65535 * 65535) n w (by omega) (by omega) (by omega) (by omega))
  rw [hn]
  have e3 : IntKind.i64.wrap (p0 - 1) = n := by rw [hn]; exact e0
  clear hn
  have HB := Aside0.mk (Below.refl w.heap.size w)
  go_enter Try.func92, Try.ntmps92
  go_wp2
  go_quiet (first | (go_at_call 53; with_reducible first | exact Qt.at (D1.out _) | exact Qt.at2 (D1.out _) | exact Qt.at (D2.out _) | exact Qt.at2 (D2.out _)))
  go_wp2
  go_ret
  exact ⟨rfl, by with_reducible repeat (first | exact HB.out | refine below_drew1 ?_ | refine pw_below_drewN ?_ _)⟩
theorem ex_small (st c : Int) (c0 : 0 ≤ c) (c1 : c ≤ 65535) (b0 : -128 ≤ st) (b1 : st ≤ 128) : 0 ≤ exV st c ∧ exV st c ≤ 33554432 := by
  obtain ⟨f0, f1⟩ := factor_range (st - 16 * (st / 16)).toNat (by omega)
  unfold exV
  split
  · obtain ⟨P0, P1⟩ := pow_small (st / 16).toNat (by omega)
    have := expo_small c _ _ c0 c1 f0 f1 P0 P1
    omega
  · obtain ⟨P0, P1⟩ := pow_small (-(st / 16)).toNat (by omega)
    have := expo_small c _ _ c0 c1 f0 f1 P0 P1
    omega
set_option maxRecDepth 100000 in
set_option maxHeartbeats 8000000 in
theorem sing_11 (ad : Addr) (cap : Nat) (p0 p1 c : Int) (w : World) (hp0 : w.cell? ad = some (.int .i64 p0)) (hp1 : w.cell? ⟨ad.block, ad.off + 1, none⟩ = some (.int .i64 p1)) (c0 : 0 ≤ c) (c1 : c ≤ 65535) (b0 : -128 ≤ p0) (b1 : p0 ≤ 128) (d0 : -65535 ≤ p1) (d1 : p1 ≤ 65535) :
    Calls Try.prog 92 #[.int .i64 11, .slice (some ad) 2 cap, .int .i64 c] w fun e w' => e = .returned (.int .i64 (expoV p0 p1 c)) ∧ Below w.heap.size w w' := by
  have hx := ex_small p0 c c0 c1 b0 b1
  rw [expo_ex]
  have D1 := Aside0.mk (fun w => expose_ex c p0 w c0 c1 b0 b1)
  obtain ⟨x, hxx⟩ : ∃ x, exV p0 c = x := ⟨_, rfl⟩
  rw [hxx] at hx D1 ⊢
  have e1 := wi (x + p1) (by omega) (by omega)
  have D2 := Aside0.mk (fun w => rlimQ (x + p1) w)
  clear hxx
  have HB := Aside0.mk (Below.refl w.heap.size w)
  go_enter Try.func92, Try.ntmps92
  go_wp2
  go_region_held3 (fun w' => w'.cell? ad = some (.int .i64 p0) ∧ w'.cell? ⟨ad.block, ad.off + 1, none⟩ = some (.int .i64 p1))
    (with_reducible (first | exact ⟨kept hb (by assumption), kept hb (by assumption)⟩ | (go_split_ands; exact ⟨kept hb (by assumption), kept hb (by assumption)⟩) | (refine ⟨?_, ?_⟩ <;> (simp only [World.cell?_drew]; assumption))))
    (((first | (go_at_call 102; refine (D1.out _).mono ?_) | (go_at_call 66; refine (Qt.below (D2.out _)).mono ?_)); rintro e w' ⟨rfl, hb⟩; have nb : Aside0 (Below w.heap.size w w') := ⟨step (by repeat (first | exact HB.out | refine pw_below_drewN ?_ _ | refine below_drew1 ?_)) hb⟩; clear HB; have HB := nb; clear nb))
  go_wp2
  go_ret
  exact ⟨rfl, by with_reducible repeat (first | exact HB.out | refine below_drew1 ?_ | refine pw_below_drewN ?_ _)⟩
end Go.Proofs.Ytmgpmpiondciiaa.Adj
