/- adjust.hue as a contract. No condition but the bounds of each theorem. -/
import Derived.Test.YtmgpmpiondciiaaAdjFrom
import Derived.Deep.RegionLaw
namespace Go.Proofs.Ytmgpmpiondciiaa.Adj
open Go.RowKit Go.Proofs.Ytmgpmpiondciiaa.PAdjustImages Go.Proofs.YtmgpmpiondciiaaW.PrintWords Go.Proofs.YtmgpmpiondciiaaW.PrintMore Go.Proofs.Ytmgpmpiondciiaa.Plain
theorem hsl_range (r g b a : Int) (V : Vld r g b a) : 0 ≤ hueV r g b ∧ hueV r g b ≤ 65535 ∧ 0 ≤ satV r g b ∧ satV r g b ≤ 65535 ∧ 0 ≤ ligV r g b ∧ ligV r g b ≤ 65535 := by
  obtain ⟨r0, r1, g0, g1, b0, b1, a0, a1⟩ := V
  obtain ⟨m1, m2, m3, m4⟩ := most_spec r g b
  obtain ⟨n1, n2, n3, n4⟩ := least_spec r g b
  unfold hueV satV ligV
  obtain ⟨M, hM⟩ : ∃ M, most r g b = M := ⟨_, rfl⟩
  obtain ⟨m, hm⟩ : ∃ m, least r g b = m := ⟨_, rfl⟩
  rw [hM] at m1 m2 m3 m4 ⊢
  rw [hm] at n1 n2 n3 n4 ⊢
  have hl := rdiv_between (M + m) 2 0 65535 (by omega) (by omega) (by omega)
  by_cases hc : M - m = 0
  · rw [if_pos hc, if_pos hc]
    omega
  · rw [if_neg hc, if_neg hc]
    have hw : M - m ≤ wide (M + m - 65535) := by unfold wide mx; split <;> omega
    have hs := rdiv_between ((M - m) * 65535) (wide (M + m - 65535)) 0 65535 (by omega) (by omega) (by omega)
    omega
set_option maxRecDepth 100000 in
set_option maxHeartbeats 1600000 in
theorem mulQ (a b : Int) (w : World) (ha0 : 0 ≤ a) (ha1 : a ≤ 65535) (hb0 : 0 ≤ b) (hb1 : b ≤ 65535) : Qt 98 #[.int .i64 a, .int .i64 b] w (.int .i64 (rdiv (a * b) 65535)) := by
  have h1 : a * b ≤ 65535 * b := Int.mul_le_mul_of_nonneg_right ha1 hb0
  have h0 : 0 ≤ a * b := Int.mul_nonneg ha0 hb0
  have e : 2 * a * b = 2 * (a * b) := Int.mul_assoc 2 a b
  have H1 : Aside0 (∀ w, Qt 103 #[.int .i64 a] w (.int .i64 a)) := ⟨fun w => by have := nunitQ a w; rw [lim_id ha0 ha1] at this; exact this⟩
  have H2 : Aside0 (∀ w, Qt 103 #[.int .i64 b] w (.int .i64 b)) := ⟨fun w => by have := nunitQ b w; rw [lim_id hb0 hb1] at this; exact this⟩
  have e1 := wi (2 * a) (by omega) (by omega)
  have e2 := wi (2 * a * b) (by omega) (by omega)
  have e3 := wi (2 * a * b + 65535) (by omega) (by omega)
  obtain ⟨z, hz⟩ : ∃ z, rdiv (a * b) 65535 = z := ⟨_, rfl⟩
  have e4 : (2 * a * b + 65535).tdiv 131070 = z := by
    rw [← hz, e, Int.tdiv_eq_ediv_of_nonneg (by omega)]
    rfl
  have zb := rdiv_between (a * b) 65535 0 65535 (by omega) (by omega) (by omega)
  rw [hz] at zb ⊢
  have e5 := wi z (by omega) (by omega)
  clear hz h1 h0 e zb
  go_enter Try.func98, Try.ntmps98
  go_wp2_with fail
  refine (H1.out _).mono ?_
  rintro e w1 ⟨rfl, m1, rfl⟩
  dsimp only
  go_wp2_with fail
  refine (H2.out _).mono ?_
  rintro e w2 ⟨rfl, m2, rfl⟩
  dsimp only
  go_wp2
  go_ret
  refine ⟨rfl, ?_⟩
  (try simp only [World.drewN_drewN])
  exact ⟨_, rfl⟩
def satT (s p1 : Int) : Int := lim (rdiv (s * (65535 + p1)) 65535)
def ligT (l p2 : Int) : Int := if 0 ≤ p2 then l + rdiv ((65535 - l) * p2) 65535 else l - rdiv (l * -p2) 65535
theorem sat_small (x y : Int) (x0 : 0 ≤ x) (x1 : x ≤ 65535) (y0 : 0 ≤ y) (y1 : y ≤ 131070) : 0 ≤ x * y ∧ x * y ≤ 8589672450 := by
  have h1 : x * y ≤ 65535 * y := Int.mul_le_mul_of_nonneg_right x1 y0
  have h0 : 0 ≤ x * y := Int.mul_nonneg x0 y0
  omega
theorem lig_small (x y : Int) (x0 : 0 ≤ x) (x1 : x ≤ 65535) (y0 : 0 ≤ y) (y1 : y ≤ 65535) : 0 ≤ rdiv (x * y) 65535 ∧ rdiv (x * y) 65535 ≤ 65535 := by
  have h1 : x * y ≤ 65535 * y := Int.mul_le_mul_of_nonneg_right x1 y0
  have h0 : 0 ≤ x * y := Int.mul_nonneg x0 y0
  exact rdiv_between _ 65535 0 65535 (by omega) (by omega) (by omega)
/-- One store: what lies elsewhere, what lies there now, the marks, Below. -/
theorem set1 {w0 w w2 : World} {b o : Nat} {v : Value} (hw : w.setCell ⟨b, o, none⟩ v = w2) (hs : (w.cell? ⟨b, o, none⟩).isSome = true) (h0 : w0.heap.size ≤ b) :
    w2.cell? ⟨b, o, none⟩ = some v ∧ (∀ (a : Addr) (u : Value), b ≠ a.block → w.cell? a = some u → w2.cell? a = some u) ∧ (∀ (n : Nat) (u : Value), o ≠ n → w.cell? ⟨b, n, none⟩ = some u → w2.cell? ⟨b, n, none⟩ = some u) ∧ (∀ a : Addr, w.frozen? a = false → w2.frozen? a = false) ∧ (Below w0.heap.size w0 w → Below w0.heap.size w0 w2) := by
  subst hw
  refine ⟨World.cell?_setCell_same' w _ v hs, fun a u hp h => ?_, fun n u hn h => ?_, fun a h => ?_, fun h => below_set h h0⟩
  · rw [World.cell?_setCell_far _ _ _ _ hp]
    exact h
  · rw [World.cell?_setCell_other w _ _ v (by intro e; injection e with _ e2; exact hn e2)]
    exact h
  · rw [World.frozen?_setCell]
    exact h
theorem fromPix_agg (h0 h1 h2 al : Int) : ∃ x0 x1 x2 x3 : Int, fromPix h0 h1 h2 al = .agg #[.int .i64 x0, .int .i64 x1, .int .i64 x2, .int .i64 x3] := by
  unfold fromPix
  split
  · exact ⟨_, _, _, _, rfl⟩
  · exact ⟨_, _, _, _, rfl⟩

set_option maxRecDepth 100000 in
set_option maxHeartbeats 3200000 in
theorem hue_p (ad : Addr) (cap : Nat) (p0 p1 p2 r g b a h s l d : Int) (w : World) (V : Vld r g b a) (hp0 : w.cell? ad = some (.int .i64 p0)) (hp1 : w.cell? ⟨ad.block, ad.off + 1, none⟩ = some (.int .i64 p1)) (hp2 : w.cell? ⟨ad.block, ad.off + 2, none⟩ = some (.int .i64 p2))
    (b0 : -32768 ≤ p0) (b1 : p0 ≤ 32768) (d0 : -65535 ≤ p1) (d1 : p1 ≤ 65535) (l0 : -65535 ≤ p2) (l1 : p2 ≤ 65535) (q : 0 ≤ p2) (hh : hueV r g b = h) (hs : satV r g b = s) (hl : ligV r g b = l) (hd : rdiv ((65535 - l) * p2) 65535 = d) :
    Calls Try.prog 81 #[.slice (some ad) 3 cap, .agg #[.int .i64 r, .int .i64 g, .int .i64 b, .int .i64 a]] w fun e w' => e = .returned (fromPix (h + p0) (satT s p1) (l + d) a) ∧ Below w.heap.size w w' := by
  obtain ⟨h0, h1, s0, s1, g0, g1⟩ := hsl_range r g b a V
  rw [hh] at h0 h1
  rw [hs] at s0 s1
  rw [hl] at g0 g1
  have e0 : 0 ≤ d ∧ d ≤ 65535 := by rw [← hd]; exact lig_small _ _ (by omega) (by omega) (by omega) (by omega)
  obtain ⟨e0, e1⟩ := e0
  obtain ⟨t, ht⟩ : ∃ t, rdiv (s * (65535 + p1)) 65535 = t := ⟨_, rfl⟩
  have hT : satT s p1 = lim t := by unfold satT; rw [ht]
  obtain ⟨x0, x1⟩ := sat_small s (65535 + p1) s0 s1 (by omega) (by omega)
  obtain ⟨S, hS⟩ : ∃ S, lim t = S := ⟨_, rfl⟩
  rw [hT, hS]
  have HT : Aside0 (∀ w, Calls Try.prog 40 #[.agg #[.int .i64 r, .int .i64 g, .int .i64 b, .int .i64 a]] w fun e w' => e = .returned (.agg #[.int .i64 h, .int .i64 s, .int .i64 l]) ∧ Below w.heap.size w w') := ⟨fun w => by rw [← hh, ← hs, ← hl]; exact toHsl_any r g b a w V⟩
  have H1 : Aside0 (∀ w, Qt 60 #[.int .i64 (s * (65535 + p1)), .int .i64 65535] w (.int .i64 t)) := ⟨fun w => by rw [← ht]; exact divQ _ 65535 w (by omega) (by omega) (by omega) (by omega)⟩
  have H2 : Aside0 (∀ w, Qt 65 #[.int .i64 t] w (.int .i64 S)) := ⟨fun w => by rw [← hS]; exact limQ _ w⟩
  have H3 : Aside0 (∀ w, Qt 98 #[.int .i64 (65535 - l), .int .i64 (p2)] w (.int .i64 d)) := ⟨fun w => by rw [← hd]; exact mulQ _ _ w (by omega) (by omega) (by omega) (by omega)⟩
  have H4 : Aside0 (∀ w, Calls Try.prog 42 #[.agg #[.int .i64 (h + p0), .int .i64 S, .int .i64 (l + d)], .int .i64 a] w fun e w' => e = .returned (fromPix (h + p0) S (l + d) a) ∧ Below w.heap.size w w') := ⟨fun w => fromHsl_any _ _ _ _ w⟩
  clear hh hs hl hd ht hT hS V
  obtain ⟨y0, y1, y2, y3, hP⟩ := fromPix_agg (h + p0) S (l + d) a
  rw [hP] at H4 ⊢
  have e2 := wi (h + p0) (by omega) (by omega)
  have e3 := wi (65535 + p1) (by omega) (by omega)
  have e4 := wi (s * (65535 + p1)) (by omega) (by omega)
  have e5 := wi (65535 - l) (by omega) (by omega)
  have e6 := wi (-p2) (by omega) (by omega)
  have e7 := wi (l + d) (by omega) (by omega)
  have HB := Aside0.mk (Below.refl w.heap.size w)
  go_enter Try.func81, Try.ntmps81
  go_wp2_with fail
  refine (HT.out _).mono ?_
  rintro e w1 ⟨rfl, hb⟩
  dsimp only
  have q0 : w1.cell? ad = some (.int .i64 p0) := kept hb (by first | exact kept (below_alloc (below_alloc (Below.refl _ w) _) _) hp0)
  have q1 : w1.cell? ⟨ad.block, ad.off + 1, none⟩ = some (.int .i64 p1) := kept hb (kept (below_alloc (below_alloc (Below.refl _ w) _) _) hp1)
  have q2 : w1.cell? ⟨ad.block, ad.off + 2, none⟩ = some (.int .i64 p2) := kept hb (kept (below_alloc (below_alloc (Below.refl _ w) _) _) hp2)
  have qa : w1.cell? ⟨w.heap.size, 3, none⟩ = some (.int .i64 a) := kept hb (by simp [go_sem])
  have qz0 : w1.cell? ⟨w.heap.size + 1, 0, none⟩ = some (.int .i64 0) := kept hb (by simp [go_sem])
  have fz0 : w1.frozen? ⟨w.heap.size + 1, 0, none⟩ = false := keptF hb (.int .i64 0) (by simp [go_sem]) (by simp [go_sem])
  have qz1 : w1.cell? ⟨w.heap.size + 1, 1, none⟩ = some (.int .i64 0) := kept hb (by simp [go_sem])
  have fz1 : w1.frozen? ⟨w.heap.size + 1, 1, none⟩ = false := keptF hb (.int .i64 0) (by simp [go_sem]) (by simp [go_sem])
  have qz2 : w1.cell? ⟨w.heap.size + 1, 2, none⟩ = some (.int .i64 0) := kept hb (by simp [go_sem])
  have fz2 : w1.frozen? ⟨w.heap.size + 1, 2, none⟩ = false := keptF hb (.int .i64 0) (by simp [go_sem]) (by simp [go_sem])
  have qz3 : w1.cell? ⟨w.heap.size + 1, 3, none⟩ = some (.int .i64 0) := kept hb (by simp [go_sem])
  have fz3 : w1.frozen? ⟨w.heap.size + 1, 3, none⟩ = false := keptF hb (.int .i64 0) (by simp [go_sem]) (by simp [go_sem])
  have nb : Aside0 (Below w.heap.size w w1) := ⟨step (below_alloc (below_alloc HB.out _) _) hb⟩
  clear HB hb hp0 hp1 hp2
  have HB := nb
  clear nb
  have n0 := World.block_lt_of_cell? w1 _ q0
  have n1 := World.block_lt_of_cell? w1 _ qz0
  dsimp only at n0 n1
  go_wp2_with fail
  generalize hWW : w1.alloc (.cells #[.int .i64 h, .int .i64 s, .int .i64 l] 51) = W
  have hB : Below w1.heap.size w1 W := by rw [← hWW]; exact below_alloc (Below.refl _ w1) _
  have k0 : W.cell? ⟨w1.heap.size, 0, none⟩ = some (.int .i64 h) := by rw [← hWW]; simp [go_sem]
  have k1 : W.cell? ⟨w1.heap.size, 1, none⟩ = some (.int .i64 s) := by rw [← hWW]; simp [go_sem]
  have k2 : W.cell? ⟨w1.heap.size, 2, none⟩ = some (.int .i64 l) := by rw [← hWW]; simp [go_sem]
  have j0 : W.frozen? ⟨w1.heap.size, 0, none⟩ = false := by rw [← hWW]; simp [go_sem]
  have j1 : W.frozen? ⟨w1.heap.size, 1, none⟩ = false := by rw [← hWW]; simp [go_sem]
  have j2 : W.frozen? ⟨w1.heap.size, 2, none⟩ = false := by rw [← hWW]; simp [go_sem]
  replace fz0 := keptF hB _ qz0 fz0
  replace fz1 := keptF hB _ qz1 fz1
  replace fz2 := keptF hB _ qz2 fz2
  replace fz3 := keptF hB _ qz3 fz3
  replace q0 := kept hB q0
  replace q1 := kept hB q1
  replace q2 := kept hB q2
  replace qa := kept hB qa
  replace qz0 := kept hB qz0
  replace qz1 := kept hB qz1
  replace qz2 := kept hB qz2
  replace qz3 := kept hB qz3
  have nb : Aside0 (Below w.heap.size w W) := ⟨step HB.out hB⟩
  clear HB hB hWW
  have HB := nb
  clear nb
  generalize w1.heap.size = H at *
  go_region
  generalize hX : W.setCell ⟨H, 0, none⟩ (.int .i64 (h + p0)) = X
  obtain ⟨t0, T, U, F, BB⟩ := set1 (w0 := w) hX (by rw [k0]; rfl) (by omega)
  replace k0 := t0
  replace k1 := U _ _ (by omega) k1
  replace k2 := U _ _ (by omega) k2
  replace qz0 := T _ _ (by dsimp only; omega) qz0
  replace fz0 := F _ fz0
  replace qz1 := T _ _ (by dsimp only; omega) qz1
  replace fz1 := F _ fz1
  replace qz2 := T _ _ (by dsimp only; omega) qz2
  replace fz2 := F _ fz2
  replace qz3 := T _ _ (by dsimp only; omega) qz3
  replace fz3 := F _ fz3
  replace j1 := F _ j1
  replace j2 := F _ j2
  replace q1 := T _ _ (by dsimp only; omega) q1
  replace q2 := T _ _ (by dsimp only; omega) q2
  replace qa := T _ _ (by dsimp only; omega) qa
  have nb : Aside0 (Below w.heap.size w X) := ⟨BB HB.out⟩
  clear HB hX t0 T U F BB j0 q0
  have HB := nb
  clear nb
  go_wp2_with fail
  go_region_law (first | (go_simp; go_at_call 60; refine (H1.out _).mono ?_; rintro e w' ⟨rfl, mm, rfl⟩; dsimp only) | (go_simp; go_at_call 65; refine (H2.out _).mono ?_; rintro e w' ⟨rfl, mm, rfl⟩; dsimp only))
  all_goals (
    generalize hY : World.setCell (World.drewN X _) ⟨H, 1, none⟩ (.int .i64 S) = Y
    obtain ⟨t0, T, U, F, BB⟩ := set1 (w0 := w) hY (by rw [World.cell?_drewN, k1]; rfl) (by omega)
    replace k0 := U _ _ (by omega) k0
    replace k1 := t0
    replace k2 := U _ _ (by omega) k2
    replace qz0 := T _ _ (by dsimp only; omega) qz0
    replace fz0 := F _ fz0
    replace qz1 := T _ _ (by dsimp only; omega) qz1
    replace fz1 := F _ fz1
    replace qz2 := T _ _ (by dsimp only; omega) qz2
    replace fz2 := F _ fz2
    replace qz3 := T _ _ (by dsimp only; omega) qz3
    replace fz3 := F _ fz3
    replace j2 := F _ j2
    replace q2 := T _ _ (by dsimp only; omega) q2
    replace qa := T _ _ (by dsimp only; omega) qa
    have nb : Aside0 (Below w.heap.size w Y) := ⟨BB (pw_below_drewN HB.out _)⟩
    clear HB hY t0 T U F BB j1 q1
    have HB := nb
    clear nb
    go_wp2_with fail
    go_region_law (first | (go_simp; go_at_call 98; refine (H3.out _).mono ?_; rintro e w' ⟨rfl, mm, rfl⟩; dsimp only))
    all_goals (
      generalize hZ : World.setCell (World.drewN Y _) ⟨H, 2, none⟩ (.int .i64 (l + d)) = Z
      obtain ⟨t0, T, U, F, BB⟩ := set1 (w0 := w) hZ (by rw [World.cell?_drewN, k2]; rfl) (by omega)
      replace k0 := U _ _ (by omega) k0
      replace k1 := U _ _ (by omega) k1
      replace k2 := t0
      replace qz0 := T _ _ (by dsimp only; omega) qz0
      replace fz0 := F _ fz0
      replace qz1 := T _ _ (by dsimp only; omega) qz1
      replace fz1 := F _ fz1
      replace qz2 := T _ _ (by dsimp only; omega) qz2
      replace fz2 := F _ fz2
      replace qz3 := T _ _ (by dsimp only; omega) qz3
      replace fz3 := F _ fz3
      replace qa := T _ _ (by dsimp only; omega) qa
      have nb : Aside0 (Below w.heap.size w Z) := ⟨BB (pw_below_drewN HB.out _)⟩
      clear HB hZ t0 T U F BB j2 q2
      have HB := nb
      clear nb
      go_wp2_with fail
      refine (H4.out _).mono ?_
      rintro e w9 ⟨rfl, hb⟩
      dsimp only
      have gz0 := keptF hb _ qz0 fz0
      replace qz0 := kept hb qz0
      have gz1 := keptF hb _ qz1 fz1
      replace qz1 := kept hb qz1
      have gz2 := keptF hb _ qz2 fz2
      replace qz2 := kept hb qz2
      have gz3 := keptF hb _ qz3 fz3
      replace qz3 := kept hb qz3
      have nb : Aside0 (Below w.heap.size w w9) := ⟨step HB.out hb⟩
      clear HB hb fz0 fz1 fz2 fz3
      have HB := nb
      clear nb
      go_wp2_with fail
      refine bodyPost_ret (v := .agg #[.int .i64 y0, .int .i64 y1, .int .i64 y2, .int .i64 y3]) (by simp [results, Try.results81, go_sem, qz0, qz1, qz2, qz3]) rfl ⟨rfl, ?_⟩
      repeat (first | exact HB.out | exact Nat.le_succ _ | exact Nat.le_refl _ | refine below_set ?_ (by omega) | refine pw_below_drewN ?_ _ | refine below_drew1 ?_)))

set_option maxRecDepth 100000 in
set_option maxHeartbeats 3200000 in
theorem hue_n (ad : Addr) (cap : Nat) (p0 p1 p2 r g b a h s l d : Int) (w : World) (V : Vld r g b a) (hp0 : w.cell? ad = some (.int .i64 p0)) (hp1 : w.cell? ⟨ad.block, ad.off + 1, none⟩ = some (.int .i64 p1)) (hp2 : w.cell? ⟨ad.block, ad.off + 2, none⟩ = some (.int .i64 p2))
    (b0 : -32768 ≤ p0) (b1 : p0 ≤ 32768) (d0 : -65535 ≤ p1) (d1 : p1 ≤ 65535) (l0 : -65535 ≤ p2) (l1 : p2 ≤ 65535) (q : ¬ 0 ≤ p2) (hh : hueV r g b = h) (hs : satV r g b = s) (hl : ligV r g b = l) (hd : rdiv ((l) * -p2) 65535 = d) :
    Calls Try.prog 81 #[.slice (some ad) 3 cap, .agg #[.int .i64 r, .int .i64 g, .int .i64 b, .int .i64 a]] w fun e w' => e = .returned (fromPix (h + p0) (satT s p1) (l - d) a) ∧ Below w.heap.size w w' := by
  obtain ⟨h0, h1, s0, s1, g0, g1⟩ := hsl_range r g b a V
  rw [hh] at h0 h1
  rw [hs] at s0 s1
  rw [hl] at g0 g1
  have e0 : 0 ≤ d ∧ d ≤ 65535 := by rw [← hd]; exact lig_small _ _ (by omega) (by omega) (by omega) (by omega)
  obtain ⟨e0, e1⟩ := e0
  obtain ⟨t, ht⟩ : ∃ t, rdiv (s * (65535 + p1)) 65535 = t := ⟨_, rfl⟩
  have hT : satT s p1 = lim t := by unfold satT; rw [ht]
  obtain ⟨x0, x1⟩ := sat_small s (65535 + p1) s0 s1 (by omega) (by omega)
  obtain ⟨S, hS⟩ : ∃ S, lim t = S := ⟨_, rfl⟩
  rw [hT, hS]
  have HT : Aside0 (∀ w, Calls Try.prog 40 #[.agg #[.int .i64 r, .int .i64 g, .int .i64 b, .int .i64 a]] w fun e w' => e = .returned (.agg #[.int .i64 h, .int .i64 s, .int .i64 l]) ∧ Below w.heap.size w w') := ⟨fun w => by rw [← hh, ← hs, ← hl]; exact toHsl_any r g b a w V⟩
  have H1 : Aside0 (∀ w, Qt 60 #[.int .i64 (s * (65535 + p1)), .int .i64 65535] w (.int .i64 t)) := ⟨fun w => by rw [← ht]; exact divQ _ 65535 w (by omega) (by omega) (by omega) (by omega)⟩
  have H2 : Aside0 (∀ w, Qt 65 #[.int .i64 t] w (.int .i64 S)) := ⟨fun w => by rw [← hS]; exact limQ _ w⟩
  have H3 : Aside0 (∀ w, Qt 98 #[.int .i64 (l), .int .i64 (-p2)] w (.int .i64 d)) := ⟨fun w => by rw [← hd]; exact mulQ _ _ w (by omega) (by omega) (by omega) (by omega)⟩
  have H4 : Aside0 (∀ w, Calls Try.prog 42 #[.agg #[.int .i64 (h + p0), .int .i64 S, .int .i64 (l - d)], .int .i64 a] w fun e w' => e = .returned (fromPix (h + p0) S (l - d) a) ∧ Below w.heap.size w w') := ⟨fun w => fromHsl_any _ _ _ _ w⟩
  clear hh hs hl hd ht hT hS V
  obtain ⟨y0, y1, y2, y3, hP⟩ := fromPix_agg (h + p0) S (l - d) a
  rw [hP] at H4 ⊢
  have e2 := wi (h + p0) (by omega) (by omega)
  have e3 := wi (65535 + p1) (by omega) (by omega)
  have e4 := wi (s * (65535 + p1)) (by omega) (by omega)
  have e5 := wi (65535 - l) (by omega) (by omega)
  have e6 := wi (-p2) (by omega) (by omega)
  have e7 := wi (l - d) (by omega) (by omega)
  have HB := Aside0.mk (Below.refl w.heap.size w)
  go_enter Try.func81, Try.ntmps81
  go_wp2_with fail
  refine (HT.out _).mono ?_
  rintro e w1 ⟨rfl, hb⟩
  dsimp only
  have q0 : w1.cell? ad = some (.int .i64 p0) := kept hb (by first | exact kept (below_alloc (below_alloc (Below.refl _ w) _) _) hp0)
  have q1 : w1.cell? ⟨ad.block, ad.off + 1, none⟩ = some (.int .i64 p1) := kept hb (kept (below_alloc (below_alloc (Below.refl _ w) _) _) hp1)
  have q2 : w1.cell? ⟨ad.block, ad.off + 2, none⟩ = some (.int .i64 p2) := kept hb (kept (below_alloc (below_alloc (Below.refl _ w) _) _) hp2)
  have qa : w1.cell? ⟨w.heap.size, 3, none⟩ = some (.int .i64 a) := kept hb (by simp [go_sem])
  have qz0 : w1.cell? ⟨w.heap.size + 1, 0, none⟩ = some (.int .i64 0) := kept hb (by simp [go_sem])
  have fz0 : w1.frozen? ⟨w.heap.size + 1, 0, none⟩ = false := keptF hb (.int .i64 0) (by simp [go_sem]) (by simp [go_sem])
  have qz1 : w1.cell? ⟨w.heap.size + 1, 1, none⟩ = some (.int .i64 0) := kept hb (by simp [go_sem])
  have fz1 : w1.frozen? ⟨w.heap.size + 1, 1, none⟩ = false := keptF hb (.int .i64 0) (by simp [go_sem]) (by simp [go_sem])
  have qz2 : w1.cell? ⟨w.heap.size + 1, 2, none⟩ = some (.int .i64 0) := kept hb (by simp [go_sem])
  have fz2 : w1.frozen? ⟨w.heap.size + 1, 2, none⟩ = false := keptF hb (.int .i64 0) (by simp [go_sem]) (by simp [go_sem])
  have qz3 : w1.cell? ⟨w.heap.size + 1, 3, none⟩ = some (.int .i64 0) := kept hb (by simp [go_sem])
  have fz3 : w1.frozen? ⟨w.heap.size + 1, 3, none⟩ = false := keptF hb (.int .i64 0) (by simp [go_sem]) (by simp [go_sem])
  have nb : Aside0 (Below w.heap.size w w1) := ⟨step (below_alloc (below_alloc HB.out _) _) hb⟩
  clear HB hb hp0 hp1 hp2
  have HB := nb
  clear nb
  have n0 := World.block_lt_of_cell? w1 _ q0
  have n1 := World.block_lt_of_cell? w1 _ qz0
  dsimp only at n0 n1
  go_wp2_with fail
  generalize hWW : w1.alloc (.cells #[.int .i64 h, .int .i64 s, .int .i64 l] 51) = W
  have hB : Below w1.heap.size w1 W := by rw [← hWW]; exact below_alloc (Below.refl _ w1) _
  have k0 : W.cell? ⟨w1.heap.size, 0, none⟩ = some (.int .i64 h) := by rw [← hWW]; simp [go_sem]
  have k1 : W.cell? ⟨w1.heap.size, 1, none⟩ = some (.int .i64 s) := by rw [← hWW]; simp [go_sem]
  have k2 : W.cell? ⟨w1.heap.size, 2, none⟩ = some (.int .i64 l) := by rw [← hWW]; simp [go_sem]
  have j0 : W.frozen? ⟨w1.heap.size, 0, none⟩ = false := by rw [← hWW]; simp [go_sem]
  have j1 : W.frozen? ⟨w1.heap.size, 1, none⟩ = false := by rw [← hWW]; simp [go_sem]
  have j2 : W.frozen? ⟨w1.heap.size, 2, none⟩ = false := by rw [← hWW]; simp [go_sem]
  replace fz0 := keptF hB _ qz0 fz0
  replace fz1 := keptF hB _ qz1 fz1
  replace fz2 := keptF hB _ qz2 fz2
  replace fz3 := keptF hB _ qz3 fz3
  replace q0 := kept hB q0
  replace q1 := kept hB q1
  replace q2 := kept hB q2
  replace qa := kept hB qa
  replace qz0 := kept hB qz0
  replace qz1 := kept hB qz1
  replace qz2 := kept hB qz2
  replace qz3 := kept hB qz3
  have nb : Aside0 (Below w.heap.size w W) := ⟨step HB.out hB⟩
  clear HB hB hWW
  have HB := nb
  clear nb
  generalize w1.heap.size = H at *
  go_region
  generalize hX : W.setCell ⟨H, 0, none⟩ (.int .i64 (h + p0)) = X
  obtain ⟨t0, T, U, F, BB⟩ := set1 (w0 := w) hX (by rw [k0]; rfl) (by omega)
  replace k0 := t0
  replace k1 := U _ _ (by omega) k1
  replace k2 := U _ _ (by omega) k2
  replace qz0 := T _ _ (by dsimp only; omega) qz0
  replace fz0 := F _ fz0
  replace qz1 := T _ _ (by dsimp only; omega) qz1
  replace fz1 := F _ fz1
  replace qz2 := T _ _ (by dsimp only; omega) qz2
  replace fz2 := F _ fz2
  replace qz3 := T _ _ (by dsimp only; omega) qz3
  replace fz3 := F _ fz3
  replace j1 := F _ j1
  replace j2 := F _ j2
  replace q1 := T _ _ (by dsimp only; omega) q1
  replace q2 := T _ _ (by dsimp only; omega) q2
  replace qa := T _ _ (by dsimp only; omega) qa
  have nb : Aside0 (Below w.heap.size w X) := ⟨BB HB.out⟩
  clear HB hX t0 T U F BB j0 q0
  have HB := nb
  clear nb
  go_wp2_with fail
  go_region_law (first | (go_simp; go_at_call 60; refine (H1.out _).mono ?_; rintro e w' ⟨rfl, mm, rfl⟩; dsimp only) | (go_simp; go_at_call 65; refine (H2.out _).mono ?_; rintro e w' ⟨rfl, mm, rfl⟩; dsimp only))
  all_goals (
    generalize hY : World.setCell (World.drewN X _) ⟨H, 1, none⟩ (.int .i64 S) = Y
    obtain ⟨t0, T, U, F, BB⟩ := set1 (w0 := w) hY (by rw [World.cell?_drewN, k1]; rfl) (by omega)
    replace k0 := U _ _ (by omega) k0
    replace k1 := t0
    replace k2 := U _ _ (by omega) k2
    replace qz0 := T _ _ (by dsimp only; omega) qz0
    replace fz0 := F _ fz0
    replace qz1 := T _ _ (by dsimp only; omega) qz1
    replace fz1 := F _ fz1
    replace qz2 := T _ _ (by dsimp only; omega) qz2
    replace fz2 := F _ fz2
    replace qz3 := T _ _ (by dsimp only; omega) qz3
    replace fz3 := F _ fz3
    replace j2 := F _ j2
    replace q2 := T _ _ (by dsimp only; omega) q2
    replace qa := T _ _ (by dsimp only; omega) qa
    have nb : Aside0 (Below w.heap.size w Y) := ⟨BB (pw_below_drewN HB.out _)⟩
    clear HB hY t0 T U F BB j1 q1
    have HB := nb
    clear nb
    go_wp2_with fail
    go_region_law (first | (go_simp; go_at_call 98; refine (H3.out _).mono ?_; rintro e w' ⟨rfl, mm, rfl⟩; dsimp only))
    all_goals (
      generalize hZ : World.setCell (World.drewN Y _) ⟨H, 2, none⟩ (.int .i64 (l - d)) = Z
      obtain ⟨t0, T, U, F, BB⟩ := set1 (w0 := w) hZ (by rw [World.cell?_drewN, k2]; rfl) (by omega)
      replace k0 := U _ _ (by omega) k0
      replace k1 := U _ _ (by omega) k1
      replace k2 := t0
      replace qz0 := T _ _ (by dsimp only; omega) qz0
      replace fz0 := F _ fz0
      replace qz1 := T _ _ (by dsimp only; omega) qz1
      replace fz1 := F _ fz1
      replace qz2 := T _ _ (by dsimp only; omega) qz2
      replace fz2 := F _ fz2
      replace qz3 := T _ _ (by dsimp only; omega) qz3
      replace fz3 := F _ fz3
      replace qa := T _ _ (by dsimp only; omega) qa
      have nb : Aside0 (Below w.heap.size w Z) := ⟨BB (pw_below_drewN HB.out _)⟩
      clear HB hZ t0 T U F BB j2 q2
      have HB := nb
      clear nb
      go_wp2_with fail
      refine (H4.out _).mono ?_
      rintro e w9 ⟨rfl, hb⟩
      dsimp only
      have gz0 := keptF hb _ qz0 fz0
      replace qz0 := kept hb qz0
      have gz1 := keptF hb _ qz1 fz1
      replace qz1 := kept hb qz1
      have gz2 := keptF hb _ qz2 fz2
      replace qz2 := kept hb qz2
      have gz3 := keptF hb _ qz3 fz3
      replace qz3 := kept hb qz3
      have nb : Aside0 (Below w.heap.size w w9) := ⟨step HB.out hb⟩
      clear HB hb fz0 fz1 fz2 fz3
      have HB := nb
      clear nb
      go_wp2_with fail
      refine bodyPost_ret (v := .agg #[.int .i64 y0, .int .i64 y1, .int .i64 y2, .int .i64 y3]) (by simp [results, Try.results81, go_sem, qz0, qz1, qz2, qz3]) rfl ⟨rfl, ?_⟩
      repeat (first | exact HB.out | exact Nat.le_succ _ | exact Nat.le_refl _ | refine below_set ?_ (by omega) | refine pw_below_drewN ?_ _ | refine below_drew1 ?_)))

/-- What hue answers. -/
def huePix (p0 p1 p2 r g b a : Int) : Value := fromPix (hueV r g b + p0) (satT (satV r g b) p1) (ligT (ligV r g b) p2) a
theorem hue_any (ad : Addr) (cap : Nat) (p0 p1 p2 r g b a : Int) (w : World) (V : Vld r g b a) (hp0 : w.cell? ad = some (.int .i64 p0)) (hp1 : w.cell? ⟨ad.block, ad.off + 1, none⟩ = some (.int .i64 p1)) (hp2 : w.cell? ⟨ad.block, ad.off + 2, none⟩ = some (.int .i64 p2))
    (b0 : -32768 ≤ p0) (b1 : p0 ≤ 32768) (d0 : -65535 ≤ p1) (d1 : p1 ≤ 65535) (l0 : -65535 ≤ p2) (l1 : p2 ≤ 65535) :
    Calls Try.prog 81 #[.slice (some ad) 3 cap, .agg #[.int .i64 r, .int .i64 g, .int .i64 b, .int .i64 a]] w fun e w' => e = .returned (huePix p0 p1 p2 r g b a) ∧ Below w.heap.size w w' := by
  unfold huePix ligT
  by_cases q : 0 ≤ p2
  · rw [if_pos q]
    exact hue_p ad cap p0 p1 p2 r g b a _ _ _ _ w V hp0 hp1 hp2 b0 b1 d0 d1 l0 l1 q rfl rfl rfl rfl
  · rw [if_neg q]
    exact hue_n ad cap p0 p1 p2 r g b a _ _ _ _ w V hp0 hp1 hp2 b0 b1 d0 d1 l0 l1 q rfl rfl rfl rfl
end Go.Proofs.Ytmgpmpiondciiaa.Adj
