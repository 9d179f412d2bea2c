/- The reference's Mix as a contract. No condition but the bounds of each theorem. -/
import Derived.Test.YtmgpmpiondciiaaAdjMix
import Derived.Test.YtmgpmpiondciiaaAdjRefNum
namespace Go.Proofs.Ytmgpmpiondciiaa.Adj
open Go.RowKit Go.Proofs.Ytmgpmpiondciiaa.PAdjustImages Go.Proofs.YtmgpmpiondciiaaW.PrintWords Go.Proofs.YtmgpmpiondciiaaW.PrintMore Go.Proofs.Ytmgpmpiondciiaa.Plain
theorem kd {w : World} {a : Addr} {v : Value} (h : w.cell? a = some v) : w.drew.cell? a = some v := by rw [World.cell?_drew]; exact h
theorem kf {w : World} {a : Addr} (h : w.frozen? a = false) : w.drew.frozen? a = false := by rw [World.frozen?_drew]; exact h
set_option maxRecDepth 100000 in
set_option maxHeartbeats 8000000 in
theorem rmix_walk (ar ag ab aa br bg bb ba t p q d A v0 v1 v2 : Int) (e0 : Value) (w : World) (U : Vld ar ag ab aa) (V : Vld br bg bb ba) (t0 : 0 ≤ t) (t1 : t ≤ 65535) (hp : aa * (65535 - t) = p) (hq : ba * t = q) (hd : p + q = d) (hA : rdiv d 65535 = A)
    (HV : A ≠ 0 → Aside0 (∀ w, Qt 53 #[.int .i64 (ar * p + br * q), .int .i64 d] w (.int .i64 v0) ∧ Qt 53 #[.int .i64 (ag * p + bg * q), .int .i64 d] w (.int .i64 v1) ∧ Qt 53 #[.int .i64 (ab * p + bb * q), .int .i64 d] w (.int .i64 v2))) (he : e0 = if A = 0 then .agg #[.int .i64 0, .int .i64 0, .int .i64 0, .int .i64 0] else .agg #[.int .i64 v0, .int .i64 v1, .int .i64 v2, .int .i64 A]) :
    Calls Try.prog 100 #[.agg #[.int .i64 ar, .int .i64 ag, .int .i64 ab, .int .i64 aa], .agg #[.int .i64 br, .int .i64 bg, .int .i64 bb, .int .i64 ba], .int .i64 t] w fun e w' => e = .returned e0 ∧ Below w.heap.size w w' := by
  have HE := Aside0.mk he
  obtain ⟨r0, r1, g0, g1, b0, b1, a0, a1⟩ := U
  obtain ⟨R0, R1, G0, G1, B0, B1, A0, A1⟩ := V
  have k1 : aa * (65535 - t) ≤ 65535 * (65535 - t) := Int.mul_le_mul_of_nonneg_right a1 (by omega)
  have k2 : ba * t ≤ 65535 * t := Int.mul_le_mul_of_nonneg_right A1 t0
  have k3 : 0 ≤ aa * (65535 - t) := Int.mul_nonneg a0 (by omega)
  have k4 : 0 ≤ ba * t := Int.mul_nonneg A0 t0
  have HA : Aside0 (∀ w, Calls Try.prog 63 #[.agg #[.int .i64 ar, .int .i64 ag, .int .i64 ab, .int .i64 aa]] w fun e w' => e = .returned (.agg #[.int .i64 ar, .int .i64 ag, .int .i64 ab, .int .i64 aa]) ∧ Below w.heap.size w w') := ⟨fun w => by
    have := LimitR ar ag ab aa w
    rw [lim_id r0 r1, lim_id g0 g1, lim_id b0 b1, lim_id a0 a1] at this
    exact this⟩
  have HC : Aside0 (∀ w, Calls Try.prog 63 #[.agg #[.int .i64 br, .int .i64 bg, .int .i64 bb, .int .i64 ba]] w fun e w' => e = .returned (.agg #[.int .i64 br, .int .i64 bg, .int .i64 bb, .int .i64 ba]) ∧ Below w.heap.size w w') := ⟨fun w => by
    have := LimitR br bg bb ba w
    rw [lim_id R0 R1, lim_id G0 G1, lim_id B0 B1, lim_id A0 A1] at this
    exact this⟩
  have HT : Aside0 (∀ w, Calls Try.prog 95 #[.int .i64 t] w fun e w' => e = .returned (.int .i64 t) ∧ Below w.heap.size w w') := ⟨fun w => imageeditorref06_U.calls t t w ((ruF t).trans (by rw [lim_id t0 t1]))⟩
  have e1 := wi (65535 - t) (by omega) (by omega)
  have e2 := wi (aa * (65535 - t)) (by omega) (by omega)
  have e3 := wi (ba * t) (by omega) (by omega)
  rw [hp] at e2 k1 k3
  rw [hq] at e3 k2 k4
  have e4 := wi (p + q) (by omega) (by omega)
  rw [hd] at e4
  have HD : Aside0 (∀ w, Qt 53 #[.int .i64 d, .int .i64 65535] w (.int .i64 A)) := ⟨fun w => by rw [← hA]; exact rdivR _ 65535 w (by omega) (by omega) (by omega) (by omega)⟩
  obtain ⟨h00, h01, h02, h03, h04⟩ := mean_small ar br p q r0 r1 R0 R1 k3 k4 (by omega)
  have x0 := wi (ar * p) (by omega) (by omega)
  have y0 := wi (br * q) (by omega) (by omega)
  have z0 := wi (ar * p + br * q) (by omega) (by omega)
  clear h00 h01 h02 h03 h04
  obtain ⟨h10, h11, h12, h13, h14⟩ := mean_small ag bg p q g0 g1 G0 G1 k3 k4 (by omega)
  have x1 := wi (ag * p) (by omega) (by omega)
  have y1 := wi (bg * q) (by omega) (by omega)
  have z1 := wi (ag * p + bg * q) (by omega) (by omega)
  clear h10 h11 h12 h13 h14
  obtain ⟨h20, h21, h22, h23, h24⟩ := mean_small ab bb p q b0 b1 B0 B1 k3 k4 (by omega)
  have x2 := wi (ab * p) (by omega) (by omega)
  have y2 := wi (bb * q) (by omega) (by omega)
  have z2 := wi (ab * p + bb * q) (by omega) (by omega)
  clear h20 h21 h22 h23 h24
  have HB := Aside0.mk (Below.refl w.heap.size w)
  have HV := Aside0.mk HV
  clear hA k1 k2 he
  go_enter Try.func100, Try.ntmps100
  go_wp2_with fail
  generalize hWW : World.alloc (World.alloc (World.alloc w _) _) _ = W
  have ca0 : W.cell? ⟨w.heap.size, 0, none⟩ = some (.int .i64 ar) := by rw [← hWW]; simp [go_sem]
  have fa0 : W.frozen? ⟨w.heap.size, 0, none⟩ = false := by rw [← hWW]; simp [go_sem]
  have ca1 : W.cell? ⟨w.heap.size, 1, none⟩ = some (.int .i64 ag) := by rw [← hWW]; simp [go_sem]
  have fa1 : W.frozen? ⟨w.heap.size, 1, none⟩ = false := by rw [← hWW]; simp [go_sem]
  have ca2 : W.cell? ⟨w.heap.size, 2, none⟩ = some (.int .i64 ab) := by rw [← hWW]; simp [go_sem]
  have fa2 : W.frozen? ⟨w.heap.size, 2, none⟩ = false := by rw [← hWW]; simp [go_sem]
  have ca3 : W.cell? ⟨w.heap.size, 3, none⟩ = some (.int .i64 aa) := by rw [← hWW]; simp [go_sem]
  have fa3 : W.frozen? ⟨w.heap.size, 3, none⟩ = false := by rw [← hWW]; simp [go_sem]
  have cb0 : W.cell? ⟨w.heap.size + 1, 0, none⟩ = some (.int .i64 br) := by rw [← hWW]; simp [go_sem]
  have fb0 : W.frozen? ⟨w.heap.size + 1, 0, none⟩ = false := by rw [← hWW]; simp [go_sem]
  have cb1 : W.cell? ⟨w.heap.size + 1, 1, none⟩ = some (.int .i64 bg) := by rw [← hWW]; simp [go_sem]
  have fb1 : W.frozen? ⟨w.heap.size + 1, 1, none⟩ = false := by rw [← hWW]; simp [go_sem]
  have cb2 : W.cell? ⟨w.heap.size + 1, 2, none⟩ = some (.int .i64 bb) := by rw [← hWW]; simp [go_sem]
  have fb2 : W.frozen? ⟨w.heap.size + 1, 2, none⟩ = false := by rw [← hWW]; simp [go_sem]
  have cb3 : W.cell? ⟨w.heap.size + 1, 3, none⟩ = some (.int .i64 ba) := by rw [← hWW]; simp [go_sem]
  have fb3 : W.frozen? ⟨w.heap.size + 1, 3, none⟩ = false := by rw [← hWW]; simp [go_sem]
  have cz0 : W.cell? ⟨w.heap.size + 2, 0, none⟩ = some (.int .i64 0) := by rw [← hWW]; simp [go_sem]
  have fz0 : W.frozen? ⟨w.heap.size + 2, 0, none⟩ = false := by rw [← hWW]; simp [go_sem]
  have cz1 : W.cell? ⟨w.heap.size + 2, 1, none⟩ = some (.int .i64 0) := by rw [← hWW]; simp [go_sem]
  have fz1 : W.frozen? ⟨w.heap.size + 2, 1, none⟩ = false := by rw [← hWW]; simp [go_sem]
  have cz2 : W.cell? ⟨w.heap.size + 2, 2, none⟩ = some (.int .i64 0) := by rw [← hWW]; simp [go_sem]
  have fz2 : W.frozen? ⟨w.heap.size + 2, 2, none⟩ = false := by rw [← hWW]; simp [go_sem]
  have cz3 : W.cell? ⟨w.heap.size + 2, 3, none⟩ = some (.int .i64 0) := by rw [← hWW]; simp [go_sem]
  have fz3 : W.frozen? ⟨w.heap.size + 2, 3, none⟩ = false := by rw [← hWW]; simp [go_sem]
  have nb : Aside0 (Below w.heap.size w W) := ⟨by rw [← hWW]; repeat (first | exact HB.out | exact Nat.le_succ _ | exact Nat.le_refl _ | refine below_alloc ?_ _ | refine pw_below_drewN ?_ _ | refine below_drew1 ?_ | refine below_set ?_ (by omega))⟩
  clear HB hWW
  have HB := nb
  clear nb
  go_region_held3 (fun w' => w'.cell? ⟨w.heap.size, 0, none⟩ = some (.int .i64 ar) ∧ w'.cell? ⟨w.heap.size, 1, none⟩ = some (.int .i64 ag) ∧ w'.cell? ⟨w.heap.size, 2, none⟩ = some (.int .i64 ab) ∧ w'.cell? ⟨w.heap.size, 3, none⟩ = some (.int .i64 aa) ∧ w'.cell? ⟨w.heap.size + 1, 0, none⟩ = some (.int .i64 br) ∧ w'.cell? ⟨w.heap.size + 1, 1, none⟩ = some (.int .i64 bg) ∧ w'.cell? ⟨w.heap.size + 1, 2, none⟩ = some (.int .i64 bb) ∧ w'.cell? ⟨w.heap.size + 1, 3, none⟩ = some (.int .i64 ba))
    (with_reducible (first | exact ⟨kept hb (by with_reducible assumption), kept hb (by with_reducible assumption), kept hb (by with_reducible assumption), kept hb (by with_reducible assumption), kept hb (by with_reducible assumption), kept hb (by with_reducible assumption), kept hb (by with_reducible assumption), kept hb (by with_reducible assumption)⟩ | (go_split_ands; exact ⟨kept hb (by with_reducible assumption), kept hb (by with_reducible assumption), kept hb (by with_reducible assumption), kept hb (by with_reducible assumption), kept hb (by with_reducible assumption), kept hb (by with_reducible assumption), kept hb (by with_reducible assumption), kept hb (by with_reducible assumption)⟩) | (refine ⟨?_, ?_, ?_, ?_, ?_, ?_, ?_, ?_⟩ <;> first | (simp only [World.cell?_drew]; assumption) | (refine same4 ?_ ?_ ?_ ?_ ?_ <;> first | assumption | (refine same4 ?_ ?_ ?_ ?_ ?_ <;> assumption)))))
    (((first | (go_at_call 63; with_reducible first | refine (HA.out _).mono ?_ | refine (HC.out _).mono ?_) | (go_at_call 95; refine (HT.out _).mono ?_)); rintro e w' ⟨rfl, hb⟩; have nb : Aside0 (Below w.heap.size w w') := ⟨step (by repeat (first | exact HB.out | exact Nat.le_succ _ | exact Nat.le_refl _ | refine below_alloc ?_ _ | refine pw_below_drewN ?_ _ | refine below_drew1 ?_ | refine below_set ?_ (by omega))) hb⟩; clear HB; have HB := nb; clear nb; have ca0 : w'.cell? ⟨w.heap.size, 0, none⟩ = some (.int .i64 ar) := kept hb (by first | (with_reducible assumption) | exact kd (by with_reducible assumption)); have fa0 : w'.frozen? ⟨w.heap.size, 0, none⟩ = false := keptF hb (.int .i64 ar) (by first | (with_reducible assumption) | exact kd (by with_reducible assumption)) (by first | (with_reducible assumption) | exact kf (by with_reducible assumption)); have ca1 : w'.cell? ⟨w.heap.size, 1, none⟩ = some (.int .i64 ag) := kept hb (by first | (with_reducible assumption) | exact kd (by with_reducible assumption)); have fa1 : w'.frozen? ⟨w.heap.size, 1, none⟩ = false := keptF hb (.int .i64 ag) (by first | (with_reducible assumption) | exact kd (by with_reducible assumption)) (by first | (with_reducible assumption) | exact kf (by with_reducible assumption)); have ca2 : w'.cell? ⟨w.heap.size, 2, none⟩ = some (.int .i64 ab) := kept hb (by first | (with_reducible assumption) | exact kd (by with_reducible assumption)); have fa2 : w'.frozen? ⟨w.heap.size, 2, none⟩ = false := keptF hb (.int .i64 ab) (by first | (with_reducible assumption) | exact kd (by with_reducible assumption)) (by first | (with_reducible assumption) | exact kf (by with_reducible assumption)); have ca3 : w'.cell? ⟨w.heap.size, 3, none⟩ = some (.int .i64 aa) := kept hb (by first | (with_reducible assumption) | exact kd (by with_reducible assumption)); have fa3 : w'.frozen? ⟨w.heap.size, 3, none⟩ = false := keptF hb (.int .i64 aa) (by first | (with_reducible assumption) | exact kd (by with_reducible assumption)) (by first | (with_reducible assumption) | exact kf (by with_reducible assumption)); have cb0 : w'.cell? ⟨w.heap.size + 1, 0, none⟩ = some (.int .i64 br) := kept hb (by first | (with_reducible assumption) | exact kd (by with_reducible assumption)); have fb0 : w'.frozen? ⟨w.heap.size + 1, 0, none⟩ = false := keptF hb (.int .i64 br) (by first | (with_reducible assumption) | exact kd (by with_reducible assumption)) (by first | (with_reducible assumption) | exact kf (by with_reducible assumption)); have cb1 : w'.cell? ⟨w.heap.size + 1, 1, none⟩ = some (.int .i64 bg) := kept hb (by first | (with_reducible assumption) | exact kd (by with_reducible assumption)); have fb1 : w'.frozen? ⟨w.heap.size + 1, 1, none⟩ = false := keptF hb (.int .i64 bg) (by first | (with_reducible assumption) | exact kd (by with_reducible assumption)) (by first | (with_reducible assumption) | exact kf (by with_reducible assumption)); have cb2 : w'.cell? ⟨w.heap.size + 1, 2, none⟩ = some (.int .i64 bb) := kept hb (by first | (with_reducible assumption) | exact kd (by with_reducible assumption)); have fb2 : w'.frozen? ⟨w.heap.size + 1, 2, none⟩ = false := keptF hb (.int .i64 bb) (by first | (with_reducible assumption) | exact kd (by with_reducible assumption)) (by first | (with_reducible assumption) | exact kf (by with_reducible assumption)); have cb3 : w'.cell? ⟨w.heap.size + 1, 3, none⟩ = some (.int .i64 ba) := kept hb (by first | (with_reducible assumption) | exact kd (by with_reducible assumption)); have fb3 : w'.frozen? ⟨w.heap.size + 1, 3, none⟩ = false := keptF hb (.int .i64 ba) (by first | (with_reducible assumption) | exact kd (by with_reducible assumption)) (by first | (with_reducible assumption) | exact kf (by with_reducible assumption)); have cz0 : w'.cell? ⟨w.heap.size + 2, 0, none⟩ = some (.int .i64 0) := kept hb (by first | (with_reducible assumption) | exact kd (by with_reducible assumption)); have fz0 : w'.frozen? ⟨w.heap.size + 2, 0, none⟩ = false := keptF hb (.int .i64 0) (by first | (with_reducible assumption) | exact kd (by with_reducible assumption)) (by first | (with_reducible assumption) | exact kf (by with_reducible assumption)); have cz1 : w'.cell? ⟨w.heap.size + 2, 1, none⟩ = some (.int .i64 0) := kept hb (by first | (with_reducible assumption) | exact kd (by with_reducible assumption)); have fz1 : w'.frozen? ⟨w.heap.size + 2, 1, none⟩ = false := keptF hb (.int .i64 0) (by first | (with_reducible assumption) | exact kd (by with_reducible assumption)) (by first | (with_reducible assumption) | exact kf (by with_reducible assumption)); have cz2 : w'.cell? ⟨w.heap.size + 2, 2, none⟩ = some (.int .i64 0) := kept hb (by first | (with_reducible assumption) | exact kd (by with_reducible assumption)); have fz2 : w'.frozen? ⟨w.heap.size + 2, 2, none⟩ = false := keptF hb (.int .i64 0) (by first | (with_reducible assumption) | exact kd (by with_reducible assumption)) (by first | (with_reducible assumption) | exact kf (by with_reducible assumption)); have cz3 : w'.cell? ⟨w.heap.size + 2, 3, none⟩ = some (.int .i64 0) := kept hb (by first | (with_reducible assumption) | exact kd (by with_reducible assumption)); have fz3 : w'.frozen? ⟨w.heap.size + 2, 3, none⟩ = false := keptF hb (.int .i64 0) (by first | (with_reducible assumption) | exact kd (by with_reducible assumption)) (by first | (with_reducible assumption) | exact kf (by with_reducible assumption))))
  generalize hw2 : ((((((((w'.setCell ⟨w.heap.size, 0, none⟩ (.int .i64 ar)).setCell ⟨w.heap.size, 1, none⟩ (.int .i64 ag)).setCell ⟨w.heap.size, 2, none⟩ (.int .i64 ab)).setCell ⟨w.heap.size, 3, none⟩ (.int .i64 aa)).setCell ⟨w.heap.size + 1, 0, none⟩ (.int .i64 br)).setCell ⟨w.heap.size + 1, 1, none⟩ (.int .i64 bg)).setCell ⟨w.heap.size + 1, 2, none⟩ (.int .i64 bb)).setCell ⟨w.heap.size + 1, 3, none⟩ (.int .i64 ba)) = w2
  have T := same8 hw2 ca0 ca1 ca2 ca3 cb0 cb1 cb2 cb3
  have F := froz8 hw2
  have nb : Aside0 (Below w.heap.size w w2) := ⟨below8 hw2 (Nat.le_refl _) (Nat.le_succ _) HB.out⟩
  clear HB hw2
  have HB := nb
  clear nb
  replace ca0 := T _ _ ca0
  clear fa0
  replace ca1 := T _ _ ca1
  clear fa1
  replace ca2 := T _ _ ca2
  clear fa2
  replace ca3 := T _ _ ca3
  clear fa3
  replace cb0 := T _ _ cb0
  clear fb0
  replace cb1 := T _ _ cb1
  clear fb1
  replace cb2 := T _ _ cb2
  clear fb2
  replace cb3 := T _ _ cb3
  clear fb3
  replace cz0 := T _ _ cz0
  replace fz0 := F _ fz0
  replace cz1 := T _ _ cz1
  replace fz1 := F _ fz1
  replace cz2 := T _ _ cz2
  replace fz2 := F _ fz2
  replace cz3 := T _ _ cz3
  replace fz3 := F _ fz3
  clear T F HA HC HT
  go_wp2_with fail
  go_region
  go_wp2_with fail
  refine (HD.out _).mono ?_
  rintro e w3 ⟨rfl, m3, rfl⟩
  dsimp only
  by_cases qA : A = 0
  · have q : (A == 0) = true := by simpa using qA
    have he := HE.out
    rw [if_pos qA] at he
    clear qA HE
    subst he
    go_wp2
    refine bodyPost_ret (v := .agg #[.int .i64 0, .int .i64 0, .int .i64 0, .int .i64 0]) (by simp [results, Try.results100, go_sem, cz0, cz1, cz2, cz3]) rfl ⟨rfl, ?_⟩
    with_reducible repeat (first | exact HB.out | refine pw_below_drewN ?_ _ | refine below_drew1 ?_ | refine below_set ?_ (by omega))
  · have q : (A == 0) = false := by simpa using qA
    have HV := HV.out qA
    have he := HE.out
    rw [if_neg qA] at he
    clear qA HE
    subst he
    go_wp2_with fail
    generalize hW4 : w2.drewN (1 + m3) = W4
    have T : ∀ (a : Addr) (v : Value), w2.cell? a = some v → W4.cell? a = some v := fun a v h => by rw [← hW4]; exact h
    have F : ∀ (a : Addr), w2.frozen? a = false → W4.frozen? a = false := fun a h => by rw [← hW4]; exact h
    have nb : Aside0 (Below w.heap.size w W4) := ⟨by rw [← hW4]; exact pw_below_drewN HB.out _⟩
    clear HB hW4
    have HB := nb
    clear nb
    replace ca0 := T _ _ ca0
    replace ca1 := T _ _ ca1
    replace ca2 := T _ _ ca2
    replace ca3 := T _ _ ca3
    replace cb0 := T _ _ cb0
    replace cb1 := T _ _ cb1
    replace cb2 := T _ _ cb2
    replace cb3 := T _ _ cb3
    replace cz0 := T _ _ cz0
    replace cz1 := T _ _ cz1
    replace cz2 := T _ _ cz2
    replace cz3 := T _ _ cz3
    replace fz0 := F _ fz0
    replace fz1 := F _ fz1
    replace fz2 := F _ fz2
    replace fz3 := F _ fz3
    clear T F
    go_region_held3 (fun w' => w'.cell? ⟨w.heap.size, 0, none⟩ = some (.int .i64 ar) ∧ w'.cell? ⟨w.heap.size, 1, none⟩ = some (.int .i64 ag) ∧ w'.cell? ⟨w.heap.size, 2, none⟩ = some (.int .i64 ab) ∧ w'.cell? ⟨w.heap.size + 1, 0, none⟩ = some (.int .i64 br) ∧ w'.cell? ⟨w.heap.size + 1, 1, none⟩ = some (.int .i64 bg) ∧ w'.cell? ⟨w.heap.size + 1, 2, none⟩ = some (.int .i64 bb))
      (with_reducible (first | exact ⟨kept hb (by assumption), kept hb (by assumption), kept hb (by assumption), kept hb (by assumption), kept hb (by assumption), kept hb (by assumption)⟩ | (go_split_ands; exact ⟨kept hb (by assumption), kept hb (by assumption), kept hb (by assumption), kept hb (by assumption), kept hb (by assumption), kept hb (by assumption)⟩) | (refine ⟨?_, ?_, ?_, ?_, ?_, ?_⟩ <;> first | (simp only [World.cell?_drew]; assumption) | (refine far4 (by dsimp only; omega) ?_; assumption))))
      ((go_at_call 53; with_reducible (first | refine (Qt.below (HV.out _).1).mono ?_ | refine (Qt.below (HV.out _).2.1).mono ?_ | refine (Qt.below (HV.out _).2.2).mono ?_); rintro e w' ⟨rfl, hb⟩; have nb : Aside0 (Below w.heap.size w w') := ⟨step (by repeat (first | exact HB.out | exact Nat.le_succ _ | exact Nat.le_refl _ | refine below_alloc ?_ _ | refine pw_below_drewN ?_ _ | refine below_drew1 ?_ | refine below_set ?_ (by omega))) hb⟩; clear HB; have HB := nb; clear nb; have ca0 : w'.cell? ⟨w.heap.size, 0, none⟩ = some (.int .i64 ar) := kept hb (by first | (with_reducible assumption) | exact kd (by with_reducible assumption)); have ca1 : w'.cell? ⟨w.heap.size, 1, none⟩ = some (.int .i64 ag) := kept hb (by first | (with_reducible assumption) | exact kd (by with_reducible assumption)); have ca2 : w'.cell? ⟨w.heap.size, 2, none⟩ = some (.int .i64 ab) := kept hb (by first | (with_reducible assumption) | exact kd (by with_reducible assumption)); have cb0 : w'.cell? ⟨w.heap.size + 1, 0, none⟩ = some (.int .i64 br) := kept hb (by first | (with_reducible assumption) | exact kd (by with_reducible assumption)); have cb1 : w'.cell? ⟨w.heap.size + 1, 1, none⟩ = some (.int .i64 bg) := kept hb (by first | (with_reducible assumption) | exact kd (by with_reducible assumption)); have cb2 : w'.cell? ⟨w.heap.size + 1, 2, none⟩ = some (.int .i64 bb) := kept hb (by first | (with_reducible assumption) | exact kd (by with_reducible assumption)); have cz0 : w'.cell? ⟨w.heap.size + 2, 0, none⟩ = some (.int .i64 0) := kept hb (by first | (with_reducible assumption) | exact kd (by with_reducible assumption)); have fz0 : w'.frozen? ⟨w.heap.size + 2, 0, none⟩ = false := keptF hb (.int .i64 0) (by first | (with_reducible assumption) | exact kd (by with_reducible assumption)) (by first | (with_reducible assumption) | exact kf (by with_reducible assumption)); have cz1 : w'.cell? ⟨w.heap.size + 2, 1, none⟩ = some (.int .i64 0) := kept hb (by first | (with_reducible assumption) | exact kd (by with_reducible assumption)); have fz1 : w'.frozen? ⟨w.heap.size + 2, 1, none⟩ = false := keptF hb (.int .i64 0) (by first | (with_reducible assumption) | exact kd (by with_reducible assumption)) (by first | (with_reducible assumption) | exact kf (by with_reducible assumption)); have cz2 : w'.cell? ⟨w.heap.size + 2, 2, none⟩ = some (.int .i64 0) := kept hb (by first | (with_reducible assumption) | exact kd (by with_reducible assumption)); have fz2 : w'.frozen? ⟨w.heap.size + 2, 2, none⟩ = false := keptF hb (.int .i64 0) (by first | (with_reducible assumption) | exact kd (by with_reducible assumption)) (by first | (with_reducible assumption) | exact kf (by with_reducible assumption)); have cz3 : w'.cell? ⟨w.heap.size + 2, 3, none⟩ = some (.int .i64 0) := kept hb (by first | (with_reducible assumption) | exact kd (by with_reducible assumption)); have fz3 : w'.frozen? ⟨w.heap.size + 2, 3, none⟩ = false := keptF hb (.int .i64 0) (by first | (with_reducible assumption) | exact kd (by with_reducible assumption)) (by first | (with_reducible assumption) | exact kf (by with_reducible assumption))))
    go_wp2
    refine bodyPost_ret (v := .agg #[.int .i64 v0, .int .i64 v1, .int .i64 v2, .int .i64 A]) (by simp [results, Try.results100, go_sem, cz0, cz1, cz2, cz3]) rfl ⟨rfl, ?_⟩
    with_reducible repeat (first | exact HB.out | refine pw_below_drewN ?_ _ | refine below_drew1 ?_ | refine below_set ?_ (by omega))
theorem rmix_any (ar ag ab aa br bg bb ba t : Int) (w : World) (U : Vld ar ag ab aa) (V : Vld br bg bb ba) (t0 : 0 ≤ t) (t1 : t ≤ 65535) :
    Calls Try.prog 100 #[.agg #[.int .i64 ar, .int .i64 ag, .int .i64 ab, .int .i64 aa], .agg #[.int .i64 br, .int .i64 bg, .int .i64 bb, .int .i64 ba], .int .i64 t] w fun e w' => e = .returned (mixPix ar ag ab aa br bg bb ba t) ∧ Below w.heap.size w w' := by
  refine rmix_walk ar ag ab aa br bg bb ba t _ _ _ _ _ _ _ _ w U V t0 t1 rfl rfl rfl rfl (fun hA => ⟨fun w => ?_⟩) rfl
  obtain ⟨r0, r1, g0, g1, b0, b1, a0, a1⟩ := U
  obtain ⟨R0, R1, G0, G1, B0, B1, A0, A1⟩ := V
  have k1 : aa * (65535 - t) ≤ 65535 * (65535 - t) := Int.mul_le_mul_of_nonneg_right a1 (by omega)
  have k2 : ba * t ≤ 65535 * t := Int.mul_le_mul_of_nonneg_right A1 t0
  have k3 : 0 ≤ aa * (65535 - t) := Int.mul_nonneg a0 (by omega)
  have k4 : 0 ≤ ba * t := Int.mul_nonneg A0 t0
  have d0 : 0 < aa * (65535 - t) + ba * t := by
    rcases (by omega : 0 < aa * (65535 - t) + ba * t ∨ aa * (65535 - t) + ba * t = 0) with h | h
    · exact h
    · exact absurd (by rw [h, rdiv_zero _ (by omega)]) hA
  refine ⟨?_, ?_, ?_⟩
  · obtain ⟨h0, h1, h2, h3, h4⟩ := mean_small ar br _ _ r0 r1 R0 R1 k3 k4 (by omega)
    exact rdivR _ _ w d0 (by omega) (by omega) (by omega)
  · obtain ⟨h0, h1, h2, h3, h4⟩ := mean_small ag bg _ _ g0 g1 G0 G1 k3 k4 (by omega)
    exact rdivR _ _ w d0 (by omega) (by omega) (by omega)
  · obtain ⟨h0, h1, h2, h3, h4⟩ := mean_small ab bb _ _ b0 b1 B0 B1 k3 k4 (by omega)
    exact rdivR _ _ w d0 (by omega) (by omega) (by omega)
end Go.Proofs.Ytmgpmpiondciiaa.Adj
