/- pixel.Mix as a contract. No condition but the bounds of each theorem. -/
import Derived.Test.YtmgpmpiondciiaaAdjQuiet
namespace Go.Proofs.Ytmgpmpiondciiaa.Adj
open Go.RowKit Go.Proofs.Ytmgpmpiondciiaa.PAdjustImages Go.Proofs.YtmgpmpiondciiaaW.PrintWords Go.Proofs.YtmgpmpiondciiaaW.PrintMore Go.Proofs.Ytmgpmpiondciiaa.Plain
def meanV (x y p q d : Int) : Int := rdiv (x * p + y * q) d
theorem mean_small (x y p q : Int) (x0 : 0 ≤ x) (x1 : x ≤ 65535) (y0 : 0 ≤ y) (y1 : y ≤ 65535) (p0 : 0 ≤ p) (q0 : 0 ≤ q) (s : p + q ≤ 4294836225) :
    0 ≤ x * p ∧ x * p ≤ 281462092005375 ∧ 0 ≤ y * q ∧ y * q ≤ 281462092005375 ∧ x * p + y * q ≤ 65535 * (p + q) := by
  have h1 : x * p ≤ 65535 * p := Int.mul_le_mul_of_nonneg_right x1 p0
  have h2 : y * q ≤ 65535 * q := Int.mul_le_mul_of_nonneg_right y1 q0
  have h3 : 0 ≤ x * p := Int.mul_nonneg x0 p0
  have h4 : 0 ≤ y * q := Int.mul_nonneg y0 q0
  omega
theorem mean_range (x y p q d : Int) (x0 : 0 ≤ x) (x1 : x ≤ 65535) (y0 : 0 ≤ y) (y1 : y ≤ 65535) (p0 : 0 ≤ p) (q0 : 0 ≤ q) (s : p + q ≤ 4294836225) (hd : p + q = d) (d0 : 0 < d) : 0 ≤ meanV x y p q d ∧ meanV x y p q d ≤ 65535 := by
  obtain ⟨a0, a1, a2, a3, a4⟩ := mean_small x y p q x0 x1 y0 y1 p0 q0 s
  exact rdiv_between _ _ 0 65535 d0 (by omega) (by rw [← hd]; omega)
set_option maxRecDepth 100000 in
set_option maxHeartbeats 1600000 in
theorem mix1Q (c1 c2 c3 : Addr) (x y p q d : Int) (w : World) (h1 : w.cell? c1 = some (.int .i64 p)) (h2 : w.cell? c2 = some (.int .i64 q)) (h3 : w.cell? c3 = some (.int .i64 d)) (x0 : 0 ≤ x) (x1 : x ≤ 65535) (y0 : 0 ≤ y) (y1 : y ≤ 65535) (p0 : 0 ≤ p) (q0 : 0 ≤ q) (s : p + q ≤ 4294836225) (hd : p + q = d) (d0 : 0 < d) :
    Qt 104 #[.int .i64 x, .int .i64 y, .pointer (some c1), .pointer (some c2), .pointer (some c3)] w (.int .i64 (meanV x y p q d)) := by
  obtain ⟨a0, a1, a2, a3, a4⟩ := mean_small x y p q x0 x1 y0 y1 p0 q0 s
  have D1 : ∀ w, Qt 60 #[.int .i64 (x * p + y * q), .int .i64 d] w (.int .i64 (meanV x y p q d)) := fun w => divQ _ _ w (by omega) (by omega) (by omega) (by omega)
  have e1 := wi (x * p) (by omega) (by omega)
  have e2 := wi (y * q) (by omega) (by omega)
  have e3 := wi (x * p + y * q) (by omega) (by omega)
  have H1 := Lib.hid D1
  clear D1 hd
  go_enter Try.func104, Try.ntmps104
  go_wp2_with fail
  refine (H1.out _).mono ?_
  rintro e w' ⟨rfl, m, rfl⟩
  go_wp2
  go_ret
  exact ⟨rfl, m, rfl⟩

/-- What Mix answers for valid colors and a unit value t. -/
def mixA (aa ba t : Int) : Int := rdiv (aa * (65535 - t) + ba * t) 65535
def mixPix (ar ag ab aa br bg bb ba t : Int) : Value :=
  if mixA aa ba t = 0 then .agg #[.int .i64 0, .int .i64 0, .int .i64 0, .int .i64 0]
  else .agg #[.int .i64 (meanV ar br (aa * (65535 - t)) (ba * t) (aa * (65535 - t) + ba * t)), .int .i64 (meanV ag bg (aa * (65535 - t)) (ba * t) (aa * (65535 - t) + ba * t)), .int .i64 (meanV ab bb (aa * (65535 - t)) (ba * t) (aa * (65535 - t) + ba * t)), .int .i64 (mixA aa ba t)]

/-- A store of what lies there already. -/
theorem same1 {w : World} {a b : Addr} {v u : Value} (h : w.cell? a = some v) (hb : w.cell? b = some u) : (w.setCell a v).cell? b = some u := by
  by_cases e : a = b
  · subst e
    rw [h] at hb
    rw [World.cell?_setCell_same w a v h]
    exact hb
  · rw [World.cell?_setCell_other w a b v e]
    exact hb
theorem same4 {w : World} {b : Nat} {p0 p1 p2 p3 u : Value} {a : Addr} (c0 : w.cell? ⟨b, 0, none⟩ = some p0) (c1 : w.cell? ⟨b, 1, none⟩ = some p1) (c2 : w.cell? ⟨b, 2, none⟩ = some p2) (c3 : w.cell? ⟨b, 3, none⟩ = some p3) (h : w.cell? a = some u) :
    ((((w.setCell ⟨b, 0, none⟩ p0).setCell ⟨b, 1, none⟩ p1).setCell ⟨b, 2, none⟩ p2).setCell ⟨b, 3, none⟩ p3).cell? a = some u := by
  have k1 := same1 c0 c1
  have k2 := same1 c0 c2
  have k3 := same1 c0 c3
  have k4 := same1 c0 h
  have l2 := same1 k1 k2
  have l3 := same1 k1 k3
  have l4 := same1 k1 k4
  have n3 := same1 l2 l3
  have n4 := same1 l2 l4
  exact same1 n3 n4

theorem same8 {w w2 : World} {b c : Nat} {p0 p1 p2 p3 q0 q1 q2 q3 : Value} (hw : ((((((((w.setCell ⟨b, 0, none⟩ p0).setCell ⟨b, 1, none⟩ p1).setCell ⟨b, 2, none⟩ p2).setCell ⟨b, 3, none⟩ p3).setCell ⟨c, 0, none⟩ q0).setCell ⟨c, 1, none⟩ q1).setCell ⟨c, 2, none⟩ q2).setCell ⟨c, 3, none⟩ q3) = w2) (c0 : w.cell? ⟨b, 0, none⟩ = some p0) (c1 : w.cell? ⟨b, 1, none⟩ = some p1) (c2 : w.cell? ⟨b, 2, none⟩ = some p2) (c3 : w.cell? ⟨b, 3, none⟩ = some p3)
    (d0 : w.cell? ⟨c, 0, none⟩ = some q0) (d1 : w.cell? ⟨c, 1, none⟩ = some q1) (d2 : w.cell? ⟨c, 2, none⟩ = some q2) (d3 : w.cell? ⟨c, 3, none⟩ = some q3) (a : Addr) (u : Value) (h : w.cell? a = some u) : w2.cell? a = some u := by
  subst hw
  have k0 := same4 c0 c1 c2 c3 d0
  have k1 := same4 c0 c1 c2 c3 d1
  have k2 := same4 c0 c1 c2 c3 d2
  have k3 := same4 c0 c1 c2 c3 d3
  have k4 := same4 c0 c1 c2 c3 h
  exact same4 k0 k1 k2 k3 k4
theorem froz8 {w w2 : World} {b c : Nat} {p0 p1 p2 p3 q0 q1 q2 q3 : Value} (hw : ((((((((w.setCell ⟨b, 0, none⟩ p0).setCell ⟨b, 1, none⟩ p1).setCell ⟨b, 2, none⟩ p2).setCell ⟨b, 3, none⟩ p3).setCell ⟨c, 0, none⟩ q0).setCell ⟨c, 1, none⟩ q1).setCell ⟨c, 2, none⟩ q2).setCell ⟨c, 3, none⟩ q3) = w2) (a : Addr) (h : w.frozen? a = false) : w2.frozen? a = false := by
  subst hw
  simp only [World.frozen?_setCell]
  exact h
theorem below8 {w0 w w2 : World} {b c : Nat} {p0 p1 p2 p3 q0 q1 q2 q3 : Value} (hw : ((((((((w.setCell ⟨b, 0, none⟩ p0).setCell ⟨b, 1, none⟩ p1).setCell ⟨b, 2, none⟩ p2).setCell ⟨b, 3, none⟩ p3).setCell ⟨c, 0, none⟩ q0).setCell ⟨c, 1, none⟩ q1).setCell ⟨c, 2, none⟩ q2).setCell ⟨c, 3, none⟩ q3) = w2) (hb : w0.heap.size ≤ b) (hc : w0.heap.size ≤ c) (h : Below w0.heap.size w0 w) : Below w0.heap.size w0 w2 := by
  subst hw
  exact below_set (below_set (below_set (below_set (below_set (below_set (below_set (below_set h hb) hb) hb) hb) hc) hc) hc) hc

theorem far4 {w : World} {b : Nat} {p0 p1 p2 p3 u : Value} {a : Addr} (hb : b ≠ a.block) (h : w.cell? a = some u) : ((((w.setCell ⟨b, 0, none⟩ p0).setCell ⟨b, 1, none⟩ p1).setCell ⟨b, 2, none⟩ p2).setCell ⟨b, 3, none⟩ p3).cell? a = some u := by
  rw [World.cell?_setCell_far _ _ _ _ hb, World.cell?_setCell_far _ _ _ _ hb, World.cell?_setCell_far _ _ _ _ hb, World.cell?_setCell_far _ _ _ _ hb]
  exact h

set_option maxRecDepth 100000 in
set_option maxHeartbeats 3200000 in
theorem mix_zero (ar ag ab aa br bg bb ba t p q d A : Int) (w : World) (U : Vld ar ag ab aa) (V : Vld br bg bb ba) (t0 : 0 ≤ t) (t1 : t ≤ 65535) (hp : aa * (65535 - t) = p) (hq : ba * t = q) (hd : p + q = d) (hA : rdiv d 65535 = A) (qA : (A == 0) = true) :
    Calls Try.prog 99 #[.agg #[.int .i64 ar, .int .i64 ag, .int .i64 ab, .int .i64 aa], .agg #[.int .i64 br, .int .i64 bg, .int .i64 bb, .int .i64 ba], .int .i64 t] w fun e w' => e = .returned (.agg #[.int .i64 0, .int .i64 0, .int .i64 0, .int .i64 0]) ∧ Below w.heap.size w w' := by
  obtain ⟨r0, r1, g0, g1, b0, b1, a0, a1⟩ := U
  obtain ⟨R0, R1, G0, G1, B0, B1, A0, A1⟩ := V
  have k1 : aa * (65535 - t) ≤ 65535 * (65535 - t) := Int.mul_le_mul_of_nonneg_right a1 (by omega)
  have k2 : ba * t ≤ 65535 * t := Int.mul_le_mul_of_nonneg_right A1 t0
  have k3 : 0 ≤ aa * (65535 - t) := Int.mul_nonneg a0 (by omega)
  have k4 : 0 ≤ ba * t := Int.mul_nonneg A0 t0
  have HA : Aside0 (∀ w, Calls Try.prog 62 #[.agg #[.int .i64 ar, .int .i64 ag, .int .i64 ab, .int .i64 aa]] w fun e w' => e = .returned (.agg #[.int .i64 ar, .int .i64 ag, .int .i64 ab, .int .i64 aa]) ∧ Below w.heap.size w w') := ⟨fun w => by
    have := Limit_any ar ag ab aa w
    rw [lim_id r0 r1, lim_id g0 g1, lim_id b0 b1, lim_id a0 a1] at this
    exact this⟩
  have HC : Aside0 (∀ w, Calls Try.prog 62 #[.agg #[.int .i64 br, .int .i64 bg, .int .i64 bb, .int .i64 ba]] w fun e w' => e = .returned (.agg #[.int .i64 br, .int .i64 bg, .int .i64 bb, .int .i64 ba]) ∧ Below w.heap.size w w') := ⟨fun w => by
    have := Limit_any br bg bb ba w
    rw [lim_id R0 R1, lim_id G0 G1, lim_id B0 B1, lim_id A0 A1] at this
    exact this⟩
  have HT : Aside0 (∀ w, Calls Try.prog 94 #[.int .i64 t] w fun e w' => e = .returned (.int .i64 t) ∧ Below w.heap.size w w') := ⟨fun w => by
    have := unit_any t w
    rw [lim_id t0 t1] at this
    exact this⟩
  have e1 := wi (65535 - t) (by omega) (by omega)
  have e2 := wi (aa * (65535 - t)) (by omega) (by omega)
  have e3 := wi (ba * t) (by omega) (by omega)
  rw [hp] at e2 k1 k3
  rw [hq] at e3 k2 k4
  have e4 := wi (p + q) (by omega) (by omega)
  rw [hd] at e4
  have HD : Aside0 (∀ w, Qt 60 #[.int .i64 d, .int .i64 65535] w (.int .i64 A)) := ⟨fun w => by rw [← hA]; exact divQ _ 65535 w (by omega) (by omega) (by omega) (by omega)⟩
  have HB := Aside0.mk (Below.refl w.heap.size w)
  clear hA k1 k2
  go_enter Try.func99, Try.ntmps99
  go_wp2_with fail
  generalize hWW : World.alloc (World.alloc (World.alloc w _) _) _ = W
  have ca0 : W.cell? ⟨w.heap.size, 0, none⟩ = some (.int .i64 ar) := by rw [← hWW]; simp [go_sem]
  have fa0 : W.frozen? ⟨w.heap.size, 0, none⟩ = false := by rw [← hWW]; simp [go_sem]
  have ca1 : W.cell? ⟨w.heap.size, 1, none⟩ = some (.int .i64 ag) := by rw [← hWW]; simp [go_sem]
  have fa1 : W.frozen? ⟨w.heap.size, 1, none⟩ = false := by rw [← hWW]; simp [go_sem]
  have ca2 : W.cell? ⟨w.heap.size, 2, none⟩ = some (.int .i64 ab) := by rw [← hWW]; simp [go_sem]
  have fa2 : W.frozen? ⟨w.heap.size, 2, none⟩ = false := by rw [← hWW]; simp [go_sem]
  have ca3 : W.cell? ⟨w.heap.size, 3, none⟩ = some (.int .i64 aa) := by rw [← hWW]; simp [go_sem]
  have fa3 : W.frozen? ⟨w.heap.size, 3, none⟩ = false := by rw [← hWW]; simp [go_sem]
  have cb0 : W.cell? ⟨w.heap.size + 1, 0, none⟩ = some (.int .i64 br) := by rw [← hWW]; simp [go_sem]
  have fb0 : W.frozen? ⟨w.heap.size + 1, 0, none⟩ = false := by rw [← hWW]; simp [go_sem]
  have cb1 : W.cell? ⟨w.heap.size + 1, 1, none⟩ = some (.int .i64 bg) := by rw [← hWW]; simp [go_sem]
  have fb1 : W.frozen? ⟨w.heap.size + 1, 1, none⟩ = false := by rw [← hWW]; simp [go_sem]
  have cb2 : W.cell? ⟨w.heap.size + 1, 2, none⟩ = some (.int .i64 bb) := by rw [← hWW]; simp [go_sem]
  have fb2 : W.frozen? ⟨w.heap.size + 1, 2, none⟩ = false := by rw [← hWW]; simp [go_sem]
  have cb3 : W.cell? ⟨w.heap.size + 1, 3, none⟩ = some (.int .i64 ba) := by rw [← hWW]; simp [go_sem]
  have fb3 : W.frozen? ⟨w.heap.size + 1, 3, none⟩ = false := by rw [← hWW]; simp [go_sem]
  have cz0 : W.cell? ⟨w.heap.size + 2, 0, none⟩ = some (.int .i64 0) := by rw [← hWW]; simp [go_sem]
  have fz0 : W.frozen? ⟨w.heap.size + 2, 0, none⟩ = false := by rw [← hWW]; simp [go_sem]
  have cz1 : W.cell? ⟨w.heap.size + 2, 1, none⟩ = some (.int .i64 0) := by rw [← hWW]; simp [go_sem]
  have fz1 : W.frozen? ⟨w.heap.size + 2, 1, none⟩ = false := by rw [← hWW]; simp [go_sem]
  have cz2 : W.cell? ⟨w.heap.size + 2, 2, none⟩ = some (.int .i64 0) := by rw [← hWW]; simp [go_sem]
  have fz2 : W.frozen? ⟨w.heap.size + 2, 2, none⟩ = false := by rw [← hWW]; simp [go_sem]
  have cz3 : W.cell? ⟨w.heap.size + 2, 3, none⟩ = some (.int .i64 0) := by rw [← hWW]; simp [go_sem]
  have fz3 : W.frozen? ⟨w.heap.size + 2, 3, none⟩ = false := by rw [← hWW]; simp [go_sem]
  have nb : Aside0 (Below w.heap.size w W) := ⟨by rw [← hWW]; repeat (first | exact HB.out | exact Nat.le_succ _ | exact Nat.le_refl _ | refine below_alloc ?_ _ | refine pw_below_drewN ?_ _ | refine below_drew1 ?_ | refine below_set ?_ (by omega))⟩
  clear HB hWW
  have HB := nb
  clear nb
  go_region_held3 (fun w' => w'.cell? ⟨w.heap.size, 0, none⟩ = some (.int .i64 ar) ∧ w'.cell? ⟨w.heap.size, 1, none⟩ = some (.int .i64 ag) ∧ w'.cell? ⟨w.heap.size, 2, none⟩ = some (.int .i64 ab) ∧ w'.cell? ⟨w.heap.size, 3, none⟩ = some (.int .i64 aa) ∧ w'.cell? ⟨w.heap.size + 1, 0, none⟩ = some (.int .i64 br) ∧ w'.cell? ⟨w.heap.size + 1, 1, none⟩ = some (.int .i64 bg) ∧ w'.cell? ⟨w.heap.size + 1, 2, none⟩ = some (.int .i64 bb) ∧ w'.cell? ⟨w.heap.size + 1, 3, none⟩ = some (.int .i64 ba))
    (with_reducible (first | exact ⟨kept hb (by with_reducible assumption), kept hb (by with_reducible assumption), kept hb (by with_reducible assumption), kept hb (by with_reducible assumption), kept hb (by with_reducible assumption), kept hb (by with_reducible assumption), kept hb (by with_reducible assumption), kept hb (by with_reducible assumption)⟩ | (go_split_ands; exact ⟨kept hb (by with_reducible assumption), kept hb (by with_reducible assumption), kept hb (by with_reducible assumption), kept hb (by with_reducible assumption), kept hb (by with_reducible assumption), kept hb (by with_reducible assumption), kept hb (by with_reducible assumption), kept hb (by with_reducible assumption)⟩) | (refine ⟨?_, ?_, ?_, ?_, ?_, ?_, ?_, ?_⟩ <;> first | (simp only [World.cell?_drew]; assumption) | (refine same4 ?_ ?_ ?_ ?_ ?_ <;> first | assumption | (refine same4 ?_ ?_ ?_ ?_ ?_ <;> assumption)))))
    (((first | (go_at_call 62; with_reducible first | refine (HA.out _).mono ?_ | refine (HC.out _).mono ?_) | (go_at_call 94; refine (HT.out _).mono ?_)); rintro e w' ⟨rfl, hb⟩; have nb : Aside0 (Below w.heap.size w w') := ⟨step (by repeat (first | exact HB.out | exact Nat.le_succ _ | exact Nat.le_refl _ | refine below_alloc ?_ _ | refine pw_below_drewN ?_ _ | refine below_drew1 ?_ | refine below_set ?_ (by omega))) hb⟩; clear HB; have HB := nb; clear nb; have ca0 : w'.cell? ⟨w.heap.size, 0, none⟩ = some (.int .i64 ar) := kept hb (by first | (with_reducible assumption) | assumption); have fa0 : w'.frozen? ⟨w.heap.size, 0, none⟩ = false := keptF hb (.int .i64 ar) (by first | (with_reducible assumption) | assumption) (by first | (with_reducible assumption) | assumption); have ca1 : w'.cell? ⟨w.heap.size, 1, none⟩ = some (.int .i64 ag) := kept hb (by first | (with_reducible assumption) | assumption); have fa1 : w'.frozen? ⟨w.heap.size, 1, none⟩ = false := keptF hb (.int .i64 ag) (by first | (with_reducible assumption) | assumption) (by first | (with_reducible assumption) | assumption); have ca2 : w'.cell? ⟨w.heap.size, 2, none⟩ = some (.int .i64 ab) := kept hb (by first | (with_reducible assumption) | assumption); have fa2 : w'.frozen? ⟨w.heap.size, 2, none⟩ = false := keptF hb (.int .i64 ab) (by first | (with_reducible assumption) | assumption) (by first | (with_reducible assumption) | assumption); have ca3 : w'.cell? ⟨w.heap.size, 3, none⟩ = some (.int .i64 aa) := kept hb (by first | (with_reducible assumption) | assumption); have fa3 : w'.frozen? ⟨w.heap.size, 3, none⟩ = false := keptF hb (.int .i64 aa) (by first | (with_reducible assumption) | assumption) (by first | (with_reducible assumption) | assumption); have cb0 : w'.cell? ⟨w.heap.size + 1, 0, none⟩ = some (.int .i64 br) := kept hb (by first | (with_reducible assumption) | assumption); have fb0 : w'.frozen? ⟨w.heap.size + 1, 0, none⟩ = false := keptF hb (.int .i64 br) (by first | (with_reducible assumption) | assumption) (by first | (with_reducible assumption) | assumption); have cb1 : w'.cell? ⟨w.heap.size + 1, 1, none⟩ = some (.int .i64 bg) := kept hb (by first | (with_reducible assumption) | assumption); have fb1 : w'.frozen? ⟨w.heap.size + 1, 1, none⟩ = false := keptF hb (.int .i64 bg) (by first | (with_reducible assumption) | assumption) (by first | (with_reducible assumption) | assumption); have cb2 : w'.cell? ⟨w.heap.size + 1, 2, none⟩ = some (.int .i64 bb) := kept hb (by first | (with_reducible assumption) | assumption); have fb2 : w'.frozen? ⟨w.heap.size + 1, 2, none⟩ = false := keptF hb (.int .i64 bb) (by first | (with_reducible assumption) | assumption) (by first | (with_reducible assumption) | assumption); have cb3 : w'.cell? ⟨w.heap.size + 1, 3, none⟩ = some (.int .i64 ba) := kept hb (by first | (with_reducible assumption) | assumption); have fb3 : w'.frozen? ⟨w.heap.size + 1, 3, none⟩ = false := keptF hb (.int .i64 ba) (by first | (with_reducible assumption) | assumption) (by first | (with_reducible assumption) | assumption); have cz0 : w'.cell? ⟨w.heap.size + 2, 0, none⟩ = some (.int .i64 0) := kept hb (by first | (with_reducible assumption) | assumption); have fz0 : w'.frozen? ⟨w.heap.size + 2, 0, none⟩ = false := keptF hb (.int .i64 0) (by first | (with_reducible assumption) | assumption) (by first | (with_reducible assumption) | assumption); have cz1 : w'.cell? ⟨w.heap.size + 2, 1, none⟩ = some (.int .i64 0) := kept hb (by first | (with_reducible assumption) | assumption); have fz1 : w'.frozen? ⟨w.heap.size + 2, 1, none⟩ = false := keptF hb (.int .i64 0) (by first | (with_reducible assumption) | assumption) (by first | (with_reducible assumption) | assumption); have cz2 : w'.cell? ⟨w.heap.size + 2, 2, none⟩ = some (.int .i64 0) := kept hb (by first | (with_reducible assumption) | assumption); have fz2 : w'.frozen? ⟨w.heap.size + 2, 2, none⟩ = false := keptF hb (.int .i64 0) (by first | (with_reducible assumption) | assumption) (by first | (with_reducible assumption) | assumption); have cz3 : w'.cell? ⟨w.heap.size + 2, 3, none⟩ = some (.int .i64 0) := kept hb (by first | (with_reducible assumption) | assumption); have fz3 : w'.frozen? ⟨w.heap.size + 2, 3, none⟩ = false := keptF hb (.int .i64 0) (by first | (with_reducible assumption) | assumption) (by first | (with_reducible assumption) | assumption)))
  generalize hw2 : ((((((((w'.setCell ⟨w.heap.size, 0, none⟩ (.int .i64 ar)).setCell ⟨w.heap.size, 1, none⟩ (.int .i64 ag)).setCell ⟨w.heap.size, 2, none⟩ (.int .i64 ab)).setCell ⟨w.heap.size, 3, none⟩ (.int .i64 aa)).setCell ⟨w.heap.size + 1, 0, none⟩ (.int .i64 br)).setCell ⟨w.heap.size + 1, 1, none⟩ (.int .i64 bg)).setCell ⟨w.heap.size + 1, 2, none⟩ (.int .i64 bb)).setCell ⟨w.heap.size + 1, 3, none⟩ (.int .i64 ba)) = w2
  have T := same8 hw2 ca0 ca1 ca2 ca3 cb0 cb1 cb2 cb3
  have F := froz8 hw2
  have da0 : w2.cell? ⟨w.heap.size, 0, none⟩ = some (.int .i64 ar) := T _ _ ca0
  have da1 : w2.cell? ⟨w.heap.size, 1, none⟩ = some (.int .i64 ag) := T _ _ ca1
  have da2 : w2.cell? ⟨w.heap.size, 2, none⟩ = some (.int .i64 ab) := T _ _ ca2
  have da3 : w2.cell? ⟨w.heap.size, 3, none⟩ = some (.int .i64 aa) := T _ _ ca3
  have db0 : w2.cell? ⟨w.heap.size + 1, 0, none⟩ = some (.int .i64 br) := T _ _ cb0
  have db1 : w2.cell? ⟨w.heap.size + 1, 1, none⟩ = some (.int .i64 bg) := T _ _ cb1
  have db2 : w2.cell? ⟨w.heap.size + 1, 2, none⟩ = some (.int .i64 bb) := T _ _ cb2
  have db3 : w2.cell? ⟨w.heap.size + 1, 3, none⟩ = some (.int .i64 ba) := T _ _ cb3
  have dz0 : w2.cell? ⟨w.heap.size + 2, 0, none⟩ = some (.int .i64 0) := T _ _ cz0
  have ez0 : w2.frozen? ⟨w.heap.size + 2, 0, none⟩ = false := F _ fz0
  have dz1 : w2.cell? ⟨w.heap.size + 2, 1, none⟩ = some (.int .i64 0) := T _ _ cz1
  have ez1 : w2.frozen? ⟨w.heap.size + 2, 1, none⟩ = false := F _ fz1
  have dz2 : w2.cell? ⟨w.heap.size + 2, 2, none⟩ = some (.int .i64 0) := T _ _ cz2
  have ez2 : w2.frozen? ⟨w.heap.size + 2, 2, none⟩ = false := F _ fz2
  have dz3 : w2.cell? ⟨w.heap.size + 2, 3, none⟩ = some (.int .i64 0) := T _ _ cz3
  have ez3 : w2.frozen? ⟨w.heap.size + 2, 3, none⟩ = false := F _ fz3
  have nb : Aside0 (Below w.heap.size w w2) := ⟨below8 hw2 (Nat.le_refl _) (Nat.le_succ _) HB.out⟩
  clear T F HB hw2 ca0 fa0 ca1 fa1 ca2 fa2 ca3 fa3 cb0 fb0 cb1 fb1 cb2 fb2 cb3 fb3 cz0 fz0 cz1 fz1 cz2 fz2 cz3 fz3
  have HB := nb
  clear nb
  have l1 := fun o => kept (below_alloc (Below.refl _ w2) o) da3
  have l2 := fun o p => kept (below_alloc (below_alloc (Below.refl _ w2) o) p) da3
  have l3 := fun o => kept (below_alloc (Below.refl _ w2) o) db3
  have l4 := fun o p => kept (below_alloc (below_alloc (Below.refl _ w2) o) p) db3
  go_wp2_with fail
  go_region
  · have zl0 := World.block_lt_of_cell? w2 _ dz0
    go_wp2_with fail
    refine (HD.out _).mono ?_
    rintro e w3 ⟨rfl, m3, rfl⟩
    dsimp only
    generalize hW3 : ((w2.alloc (.cells #[.int .i64 p] 3)).alloc (.cells #[.int .i64 q] 3)).alloc (.cells #[.int .i64 d] 3) = W3
    have hB3 : Below w2.heap.size w2 W3 := by
      rw [← hW3]
      exact below_alloc (below_alloc (below_alloc (Below.refl _ w2) _) _) _
    have cz0 : W3.cell? ⟨w.heap.size + 2, 0, none⟩ = some (.int .i64 0) := kept hB3 dz0
    have fz0 : W3.frozen? ⟨w.heap.size + 2, 0, none⟩ = false := keptF hB3 _ dz0 ez0
    have cz1 : W3.cell? ⟨w.heap.size + 2, 1, none⟩ = some (.int .i64 0) := kept hB3 dz1
    have fz1 : W3.frozen? ⟨w.heap.size + 2, 1, none⟩ = false := keptF hB3 _ dz1 ez1
    have cz2 : W3.cell? ⟨w.heap.size + 2, 2, none⟩ = some (.int .i64 0) := kept hB3 dz2
    have fz2 : W3.frozen? ⟨w.heap.size + 2, 2, none⟩ = false := keptF hB3 _ dz2 ez2
    have cz3 : W3.cell? ⟨w.heap.size + 2, 3, none⟩ = some (.int .i64 0) := kept hB3 dz3
    have fz3 : W3.frozen? ⟨w.heap.size + 2, 3, none⟩ = false := keptF hB3 _ dz3 ez3
    have nb : Aside0 (Below w.heap.size w W3) := ⟨step HB.out hB3⟩
    clear HB hW3 hB3 l1 l2 l3 l4 da0 da1 da2 da3 db0 db1 db2 db3 dz0 dz1 dz2 dz3 ez0 ez1 ez2 ez3
    have HB := nb
    clear nb
    go_wp2_with fail
    refine bodyPost_ret (v := .agg #[.int .i64 0, .int .i64 0, .int .i64 0, .int .i64 0]) (by simp [results, Try.results99, go_sem, cz0, cz1, cz2, cz3]) rfl ⟨rfl, ?_⟩
    repeat (first | exact HB.out | exact Nat.le_succ _ | exact Nat.le_refl _ | refine below_set ?_ (by omega) | refine pw_below_drewN ?_ _ | refine below_drew1 ?_)
  · have zl0 := World.block_lt_of_cell? w2 _ dz0
    go_wp2_with fail
    refine (HD.out _).mono ?_
    rintro e w3 ⟨rfl, m3, rfl⟩
    dsimp only
    generalize hW3 : ((w2.alloc (.cells #[.int .i64 q] 3)).alloc (.cells #[.int .i64 p] 3)).alloc (.cells #[.int .i64 d] 3) = W3
    have hB3 : Below w2.heap.size w2 W3 := by
      rw [← hW3]
      exact below_alloc (below_alloc (below_alloc (Below.refl _ w2) _) _) _
    have cz0 : W3.cell? ⟨w.heap.size + 2, 0, none⟩ = some (.int .i64 0) := kept hB3 dz0
    have fz0 : W3.frozen? ⟨w.heap.size + 2, 0, none⟩ = false := keptF hB3 _ dz0 ez0
    have cz1 : W3.cell? ⟨w.heap.size + 2, 1, none⟩ = some (.int .i64 0) := kept hB3 dz1
    have fz1 : W3.frozen? ⟨w.heap.size + 2, 1, none⟩ = false := keptF hB3 _ dz1 ez1
    have cz2 : W3.cell? ⟨w.heap.size + 2, 2, none⟩ = some (.int .i64 0) := kept hB3 dz2
    have fz2 : W3.frozen? ⟨w.heap.size + 2, 2, none⟩ = false := keptF hB3 _ dz2 ez2
    have cz3 : W3.cell? ⟨w.heap.size + 2, 3, none⟩ = some (.int .i64 0) := kept hB3 dz3
    have fz3 : W3.frozen? ⟨w.heap.size + 2, 3, none⟩ = false := keptF hB3 _ dz3 ez3
    have nb : Aside0 (Below w.heap.size w W3) := ⟨step HB.out hB3⟩
    clear HB hW3 hB3 l1 l2 l3 l4 da0 da1 da2 da3 db0 db1 db2 db3 dz0 dz1 dz2 dz3 ez0 ez1 ez2 ez3
    have HB := nb
    clear nb
    go_wp2_with fail
    refine bodyPost_ret (v := .agg #[.int .i64 0, .int .i64 0, .int .i64 0, .int .i64 0]) (by simp [results, Try.results99, go_sem, cz0, cz1, cz2, cz3]) rfl ⟨rfl, ?_⟩
    repeat (first | exact HB.out | exact Nat.le_succ _ | exact Nat.le_refl _ | refine below_set ?_ (by omega) | refine pw_below_drewN ?_ _ | refine below_drew1 ?_)

set_option maxRecDepth 100000 in
set_option maxHeartbeats 3200000 in
theorem mix_some (ar ag ab aa br bg bb ba t p q d A : Int) (w : World) (U : Vld ar ag ab aa) (V : Vld br bg bb ba) (t0 : 0 ≤ t) (t1 : t ≤ 65535) (hp : aa * (65535 - t) = p) (hq : ba * t = q) (hd : p + q = d) (hA : rdiv d 65535 = A) (qA : (A == 0) = false) :
    Calls Try.prog 99 #[.agg #[.int .i64 ar, .int .i64 ag, .int .i64 ab, .int .i64 aa], .agg #[.int .i64 br, .int .i64 bg, .int .i64 bb, .int .i64 ba], .int .i64 t] w fun e w' => e = .returned (.agg #[.int .i64 (meanV ar br p q d), .int .i64 (meanV ag bg p q d), .int .i64 (meanV ab bb p q d), .int .i64 A]) ∧ Below w.heap.size w w' := by
  obtain ⟨r0, r1, g0, g1, b0, b1, a0, a1⟩ := U
  obtain ⟨R0, R1, G0, G1, B0, B1, A0, A1⟩ := V
  have k1 : aa * (65535 - t) ≤ 65535 * (65535 - t) := Int.mul_le_mul_of_nonneg_right a1 (by omega)
  have k2 : ba * t ≤ 65535 * t := Int.mul_le_mul_of_nonneg_right A1 t0
  have k3 : 0 ≤ aa * (65535 - t) := Int.mul_nonneg a0 (by omega)
  have k4 : 0 ≤ ba * t := Int.mul_nonneg A0 t0
  have HA : Aside0 (∀ w, Calls Try.prog 62 #[.agg #[.int .i64 ar, .int .i64 ag, .int .i64 ab, .int .i64 aa]] w fun e w' => e = .returned (.agg #[.int .i64 ar, .int .i64 ag, .int .i64 ab, .int .i64 aa]) ∧ Below w.heap.size w w') := ⟨fun w => by
    have := Limit_any ar ag ab aa w
    rw [lim_id r0 r1, lim_id g0 g1, lim_id b0 b1, lim_id a0 a1] at this
    exact this⟩
  have HC : Aside0 (∀ w, Calls Try.prog 62 #[.agg #[.int .i64 br, .int .i64 bg, .int .i64 bb, .int .i64 ba]] w fun e w' => e = .returned (.agg #[.int .i64 br, .int .i64 bg, .int .i64 bb, .int .i64 ba]) ∧ Below w.heap.size w w') := ⟨fun w => by
    have := Limit_any br bg bb ba w
    rw [lim_id R0 R1, lim_id G0 G1, lim_id B0 B1, lim_id A0 A1] at this
    exact this⟩
  have HT : Aside0 (∀ w, Calls Try.prog 94 #[.int .i64 t] w fun e w' => e = .returned (.int .i64 t) ∧ Below w.heap.size w w') := ⟨fun w => by
    have := unit_any t w
    rw [lim_id t0 t1] at this
    exact this⟩
  have e1 := wi (65535 - t) (by omega) (by omega)
  have e2 := wi (aa * (65535 - t)) (by omega) (by omega)
  have e3 := wi (ba * t) (by omega) (by omega)
  rw [hp] at e2 k1 k3
  rw [hq] at e3 k2 k4
  have e4 := wi (p + q) (by omega) (by omega)
  rw [hd] at e4
  have HD : Aside0 (∀ w, Qt 60 #[.int .i64 d, .int .i64 65535] w (.int .i64 A)) := ⟨fun w => by rw [← hA]; exact divQ _ 65535 w (by omega) (by omega) (by omega) (by omega)⟩
  have d0 : 0 < d := by
    rcases (by omega : 0 < d ∨ d = 0) with h | h
    · exact h
    · exfalso
      rw [h, rdiv_zero _ (by omega)] at hA
      subst hA
      simp at qA
  have HM : Aside0 (∀ (c1 c2 c3 : Addr) (u v : Int) (w1 : World), 0 ≤ u → u ≤ 65535 → 0 ≤ v → v ≤ 65535 → w1.cell? c1 = some (.int .i64 p) → w1.cell? c2 = some (.int .i64 q) → w1.cell? c3 = some (.int .i64 d) → Calls Try.prog 104 #[.int .i64 u, .int .i64 v, .pointer (some c1), .pointer (some c2), .pointer (some c3)] w1 fun e w' => e = .returned (.int .i64 (meanV u v p q d)) ∧ Below w1.heap.size w1 w') := ⟨fun c1 c2 c3 u v w1 u0 u1 v0 v1 h1 h2 h3 => (mix1Q c1 c2 c3 u v p q d w1 h1 h2 h3 u0 u1 v0 v1 k3 k4 (by omega) hd d0).below⟩
  have HB := Aside0.mk (Below.refl w.heap.size w)
  clear hA k1 k2
  go_enter Try.func99, Try.ntmps99
  go_wp2_with fail
  generalize hWW : World.alloc (World.alloc (World.alloc w _) _) _ = W
  have ca0 : W.cell? ⟨w.heap.size, 0, none⟩ = some (.int .i64 ar) := by rw [← hWW]; simp [go_sem]
  have fa0 : W.frozen? ⟨w.heap.size, 0, none⟩ = false := by rw [← hWW]; simp [go_sem]
  have ca1 : W.cell? ⟨w.heap.size, 1, none⟩ = some (.int .i64 ag) := by rw [← hWW]; simp [go_sem]
  have fa1 : W.frozen? ⟨w.heap.size, 1, none⟩ = false := by rw [← hWW]; simp [go_sem]
  have ca2 : W.cell? ⟨w.heap.size, 2, none⟩ = some (.int .i64 ab) := by rw [← hWW]; simp [go_sem]
  have fa2 : W.frozen? ⟨w.heap.size, 2, none⟩ = false := by rw [← hWW]; simp [go_sem]
  have ca3 : W.cell? ⟨w.heap.size, 3, none⟩ = some (.int .i64 aa) := by rw [← hWW]; simp [go_sem]
  have fa3 : W.frozen? ⟨w.heap.size, 3, none⟩ = false := by rw [← hWW]; simp [go_sem]
  have cb0 : W.cell? ⟨w.heap.size + 1, 0, none⟩ = some (.int .i64 br) := by rw [← hWW]; simp [go_sem]
  have fb0 : W.frozen? ⟨w.heap.size + 1, 0, none⟩ = false := by rw [← hWW]; simp [go_sem]
  have cb1 : W.cell? ⟨w.heap.size + 1, 1, none⟩ = some (.int .i64 bg) := by rw [← hWW]; simp [go_sem]
  have fb1 : W.frozen? ⟨w.heap.size + 1, 1, none⟩ = false := by rw [← hWW]; simp [go_sem]
  have cb2 : W.cell? ⟨w.heap.size + 1, 2, none⟩ = some (.int .i64 bb) := by rw [← hWW]; simp [go_sem]
  have fb2 : W.frozen? ⟨w.heap.size + 1, 2, none⟩ = false := by rw [← hWW]; simp [go_sem]
  have cb3 : W.cell? ⟨w.heap.size + 1, 3, none⟩ = some (.int .i64 ba) := by rw [← hWW]; simp [go_sem]
  have fb3 : W.frozen? ⟨w.heap.size + 1, 3, none⟩ = false := by rw [← hWW]; simp [go_sem]
  have cz0 : W.cell? ⟨w.heap.size + 2, 0, none⟩ = some (.int .i64 0) := by rw [← hWW]; simp [go_sem]
  have fz0 : W.frozen? ⟨w.heap.size + 2, 0, none⟩ = false := by rw [← hWW]; simp [go_sem]
  have cz1 : W.cell? ⟨w.heap.size + 2, 1, none⟩ = some (.int .i64 0) := by rw [← hWW]; simp [go_sem]
  have fz1 : W.frozen? ⟨w.heap.size + 2, 1, none⟩ = false := by rw [← hWW]; simp [go_sem]
  have cz2 : W.cell? ⟨w.heap.size + 2, 2, none⟩ = some (.int .i64 0) := by rw [← hWW]; simp [go_sem]
  have fz2 : W.frozen? ⟨w.heap.size + 2, 2, none⟩ = false := by rw [← hWW]; simp [go_sem]
  have cz3 : W.cell? ⟨w.heap.size + 2, 3, none⟩ = some (.int .i64 0) := by rw [← hWW]; simp [go_sem]
  have fz3 : W.frozen? ⟨w.heap.size + 2, 3, none⟩ = false := by rw [← hWW]; simp [go_sem]
  have nb : Aside0 (Below w.heap.size w W) := ⟨by rw [← hWW]; repeat (first | exact HB.out | exact Nat.le_succ _ | exact Nat.le_refl _ | refine below_alloc ?_ _ | refine pw_below_drewN ?_ _ | refine below_drew1 ?_ | refine below_set ?_ (by omega))⟩
  clear HB hWW
  have HB := nb
  clear nb
  go_region_held3 (fun w' => w'.cell? ⟨w.heap.size, 0, none⟩ = some (.int .i64 ar) ∧ w'.cell? ⟨w.heap.size, 1, none⟩ = some (.int .i64 ag) ∧ w'.cell? ⟨w.heap.size, 2, none⟩ = some (.int .i64 ab) ∧ w'.cell? ⟨w.heap.size, 3, none⟩ = some (.int .i64 aa) ∧ w'.cell? ⟨w.heap.size + 1, 0, none⟩ = some (.int .i64 br) ∧ w'.cell? ⟨w.heap.size + 1, 1, none⟩ = some (.int .i64 bg) ∧ w'.cell? ⟨w.heap.size + 1, 2, none⟩ = some (.int .i64 bb) ∧ w'.cell? ⟨w.heap.size + 1, 3, none⟩ = some (.int .i64 ba))
    (with_reducible (first | exact ⟨kept hb (by with_reducible assumption), kept hb (by with_reducible assumption), kept hb (by with_reducible assumption), kept hb (by with_reducible assumption), kept hb (by with_reducible assumption), kept hb (by with_reducible assumption), kept hb (by with_reducible assumption), kept hb (by with_reducible assumption)⟩ | (go_split_ands; exact ⟨kept hb (by with_reducible assumption), kept hb (by with_reducible assumption), kept hb (by with_reducible assumption), kept hb (by with_reducible assumption), kept hb (by with_reducible assumption), kept hb (by with_reducible assumption), kept hb (by with_reducible assumption), kept hb (by with_reducible assumption)⟩) | (refine ⟨?_, ?_, ?_, ?_, ?_, ?_, ?_, ?_⟩ <;> first | (simp only [World.cell?_drew]; assumption) | (refine same4 ?_ ?_ ?_ ?_ ?_ <;> first | assumption | (refine same4 ?_ ?_ ?_ ?_ ?_ <;> assumption)))))
    (((first | (go_at_call 62; with_reducible first | refine (HA.out _).mono ?_ | refine (HC.out _).mono ?_) | (go_at_call 94; refine (HT.out _).mono ?_)); rintro e w' ⟨rfl, hb⟩; have nb : Aside0 (Below w.heap.size w w') := ⟨step (by repeat (first | exact HB.out | exact Nat.le_succ _ | exact Nat.le_refl _ | refine below_alloc ?_ _ | refine pw_below_drewN ?_ _ | refine below_drew1 ?_ | refine below_set ?_ (by omega))) hb⟩; clear HB; have HB := nb; clear nb; have ca0 : w'.cell? ⟨w.heap.size, 0, none⟩ = some (.int .i64 ar) := kept hb (by first | (with_reducible assumption) | assumption); have fa0 : w'.frozen? ⟨w.heap.size, 0, none⟩ = false := keptF hb (.int .i64 ar) (by first | (with_reducible assumption) | assumption) (by first | (with_reducible assumption) | assumption); have ca1 : w'.cell? ⟨w.heap.size, 1, none⟩ = some (.int .i64 ag) := kept hb (by first | (with_reducible assumption) | assumption); have fa1 : w'.frozen? ⟨w.heap.size, 1, none⟩ = false := keptF hb (.int .i64 ag) (by first | (with_reducible assumption) | assumption) (by first | (with_reducible assumption) | assumption); have ca2 : w'.cell? ⟨w.heap.size, 2, none⟩ = some (.int .i64 ab) := kept hb (by first | (with_reducible assumption) | assumption); have fa2 : w'.frozen? ⟨w.heap.size, 2, none⟩ = false := keptF hb (.int .i64 ab) (by first | (with_reducible assumption) | assumption) (by first | (with_reducible assumption) | assumption); have ca3 : w'.cell? ⟨w.heap.size, 3, none⟩ = some (.int .i64 aa) := kept hb (by first | (with_reducible assumption) | assumption); have fa3 : w'.frozen? ⟨w.heap.size, 3, none⟩ = false := keptF hb (.int .i64 aa) (by first | (with_reducible assumption) | assumption) (by first | (with_reducible assumption) | assumption); have cb0 : w'.cell? ⟨w.heap.size + 1, 0, none⟩ = some (.int .i64 br) := kept hb (by first | (with_reducible assumption) | assumption); have fb0 : w'.frozen? ⟨w.heap.size + 1, 0, none⟩ = false := keptF hb (.int .i64 br) (by first | (with_reducible assumption) | assumption) (by first | (with_reducible assumption) | assumption); have cb1 : w'.cell? ⟨w.heap.size + 1, 1, none⟩ = some (.int .i64 bg) := kept hb (by first | (with_reducible assumption) | assumption); have fb1 : w'.frozen? ⟨w.heap.size + 1, 1, none⟩ = false := keptF hb (.int .i64 bg) (by first | (with_reducible assumption) | assumption) (by first | (with_reducible assumption) | assumption); have cb2 : w'.cell? ⟨w.heap.size + 1, 2, none⟩ = some (.int .i64 bb) := kept hb (by first | (with_reducible assumption) | assumption); have fb2 : w'.frozen? ⟨w.heap.size + 1, 2, none⟩ = false := keptF hb (.int .i64 bb) (by first | (with_reducible assumption) | assumption) (by first | (with_reducible assumption) | assumption); have cb3 : w'.cell? ⟨w.heap.size + 1, 3, none⟩ = some (.int .i64 ba) := kept hb (by first | (with_reducible assumption) | assumption); have fb3 : w'.frozen? ⟨w.heap.size + 1, 3, none⟩ = false := keptF hb (.int .i64 ba) (by first | (with_reducible assumption) | assumption) (by first | (with_reducible assumption) | assumption); have cz0 : w'.cell? ⟨w.heap.size + 2, 0, none⟩ = some (.int .i64 0) := kept hb (by first | (with_reducible assumption) | assumption); have fz0 : w'.frozen? ⟨w.heap.size + 2, 0, none⟩ = false := keptF hb (.int .i64 0) (by first | (with_reducible assumption) | assumption) (by first | (with_reducible assumption) | assumption); have cz1 : w'.cell? ⟨w.heap.size + 2, 1, none⟩ = some (.int .i64 0) := kept hb (by first | (with_reducible assumption) | assumption); have fz1 : w'.frozen? ⟨w.heap.size + 2, 1, none⟩ = false := keptF hb (.int .i64 0) (by first | (with_reducible assumption) | assumption) (by first | (with_reducible assumption) | assumption); have cz2 : w'.cell? ⟨w.heap.size + 2, 2, none⟩ = some (.int .i64 0) := kept hb (by first | (with_reducible assumption) | assumption); have fz2 : w'.frozen? ⟨w.heap.size + 2, 2, none⟩ = false := keptF hb (.int .i64 0) (by first | (with_reducible assumption) | assumption) (by first | (with_reducible assumption) | assumption); have cz3 : w'.cell? ⟨w.heap.size + 2, 3, none⟩ = some (.int .i64 0) := kept hb (by first | (with_reducible assumption) | assumption); have fz3 : w'.frozen? ⟨w.heap.size + 2, 3, none⟩ = false := keptF hb (.int .i64 0) (by first | (with_reducible assumption) | assumption) (by first | (with_reducible assumption) | assumption)))
  generalize hw2 : ((((((((w'.setCell ⟨w.heap.size, 0, none⟩ (.int .i64 ar)).setCell ⟨w.heap.size, 1, none⟩ (.int .i64 ag)).setCell ⟨w.heap.size, 2, none⟩ (.int .i64 ab)).setCell ⟨w.heap.size, 3, none⟩ (.int .i64 aa)).setCell ⟨w.heap.size + 1, 0, none⟩ (.int .i64 br)).setCell ⟨w.heap.size + 1, 1, none⟩ (.int .i64 bg)).setCell ⟨w.heap.size + 1, 2, none⟩ (.int .i64 bb)).setCell ⟨w.heap.size + 1, 3, none⟩ (.int .i64 ba)) = w2
  have T := same8 hw2 ca0 ca1 ca2 ca3 cb0 cb1 cb2 cb3
  have F := froz8 hw2
  have da0 : w2.cell? ⟨w.heap.size, 0, none⟩ = some (.int .i64 ar) := T _ _ ca0
  have da1 : w2.cell? ⟨w.heap.size, 1, none⟩ = some (.int .i64 ag) := T _ _ ca1
  have da2 : w2.cell? ⟨w.heap.size, 2, none⟩ = some (.int .i64 ab) := T _ _ ca2
  have da3 : w2.cell? ⟨w.heap.size, 3, none⟩ = some (.int .i64 aa) := T _ _ ca3
  have db0 : w2.cell? ⟨w.heap.size + 1, 0, none⟩ = some (.int .i64 br) := T _ _ cb0
  have db1 : w2.cell? ⟨w.heap.size + 1, 1, none⟩ = some (.int .i64 bg) := T _ _ cb1
  have db2 : w2.cell? ⟨w.heap.size + 1, 2, none⟩ = some (.int .i64 bb) := T _ _ cb2
  have db3 : w2.cell? ⟨w.heap.size + 1, 3, none⟩ = some (.int .i64 ba) := T _ _ cb3
  have dz0 : w2.cell? ⟨w.heap.size + 2, 0, none⟩ = some (.int .i64 0) := T _ _ cz0
  have ez0 : w2.frozen? ⟨w.heap.size + 2, 0, none⟩ = false := F _ fz0
  have dz1 : w2.cell? ⟨w.heap.size + 2, 1, none⟩ = some (.int .i64 0) := T _ _ cz1
  have ez1 : w2.frozen? ⟨w.heap.size + 2, 1, none⟩ = false := F _ fz1
  have dz2 : w2.cell? ⟨w.heap.size + 2, 2, none⟩ = some (.int .i64 0) := T _ _ cz2
  have ez2 : w2.frozen? ⟨w.heap.size + 2, 2, none⟩ = false := F _ fz2
  have dz3 : w2.cell? ⟨w.heap.size + 2, 3, none⟩ = some (.int .i64 0) := T _ _ cz3
  have ez3 : w2.frozen? ⟨w.heap.size + 2, 3, none⟩ = false := F _ fz3
  have nb : Aside0 (Below w.heap.size w w2) := ⟨below8 hw2 (Nat.le_refl _) (Nat.le_succ _) HB.out⟩
  clear T F HB hw2 ca0 fa0 ca1 fa1 ca2 fa2 ca3 fa3 cb0 fb0 cb1 fb1 cb2 fb2 cb3 fb3 cz0 fz0 cz1 fz1 cz2 fz2 cz3 fz3
  have HB := nb
  clear nb
  have l1 := fun o => kept (below_alloc (Below.refl _ w2) o) da3
  have l2 := fun o p => kept (below_alloc (below_alloc (Below.refl _ w2) o) p) da3
  have l3 := fun o => kept (below_alloc (Below.refl _ w2) o) db3
  have l4 := fun o p => kept (below_alloc (below_alloc (Below.refl _ w2) o) p) db3
  go_wp2_with fail
  go_region
  · have zl0 := World.block_lt_of_cell? w2 _ dz0
    go_wp2_with fail
    refine (HD.out _).mono ?_
    rintro e w3 ⟨rfl, m3, rfl⟩
    dsimp only
    generalize hW3 : ((w2.alloc (.cells #[.int .i64 p] 3)).alloc (.cells #[.int .i64 q] 3)).alloc (.cells #[.int .i64 d] 3) = W3
    have hB3 : Below w2.heap.size w2 W3 := by
      rw [← hW3]
      exact below_alloc (below_alloc (below_alloc (Below.refl _ w2) _) _) _
    have ca0 : W3.cell? ⟨w.heap.size, 0, none⟩ = some (.int .i64 ar) := kept hB3 da0
    have ca1 : W3.cell? ⟨w.heap.size, 1, none⟩ = some (.int .i64 ag) := kept hB3 da1
    have ca2 : W3.cell? ⟨w.heap.size, 2, none⟩ = some (.int .i64 ab) := kept hB3 da2
    have cb0 : W3.cell? ⟨w.heap.size + 1, 0, none⟩ = some (.int .i64 br) := kept hB3 db0
    have cb1 : W3.cell? ⟨w.heap.size + 1, 1, none⟩ = some (.int .i64 bg) := kept hB3 db1
    have cb2 : W3.cell? ⟨w.heap.size + 1, 2, none⟩ = some (.int .i64 bb) := kept hB3 db2
    have cz0 : W3.cell? ⟨w.heap.size + 2, 0, none⟩ = some (.int .i64 0) := kept hB3 dz0
    have fz0 : W3.frozen? ⟨w.heap.size + 2, 0, none⟩ = false := keptF hB3 _ dz0 ez0
    have cz1 : W3.cell? ⟨w.heap.size + 2, 1, none⟩ = some (.int .i64 0) := kept hB3 dz1
    have fz1 : W3.frozen? ⟨w.heap.size + 2, 1, none⟩ = false := keptF hB3 _ dz1 ez1
    have cz2 : W3.cell? ⟨w.heap.size + 2, 2, none⟩ = some (.int .i64 0) := kept hB3 dz2
    have fz2 : W3.frozen? ⟨w.heap.size + 2, 2, none⟩ = false := keptF hB3 _ dz2 ez2
    have cz3 : W3.cell? ⟨w.heap.size + 2, 3, none⟩ = some (.int .i64 0) := kept hB3 dz3
    have fz3 : W3.frozen? ⟨w.heap.size + 2, 3, none⟩ = false := keptF hB3 _ dz3 ez3
    have cp : W3.cell? ⟨w2.heap.size, 0, none⟩ = some (.int .i64 p) := by rw [← hW3]; simp [go_sem]
    have cq : W3.cell? ⟨w2.heap.size + 1, 0, none⟩ = some (.int .i64 q) := by rw [← hW3]; simp [go_sem]
    have cd : W3.cell? ⟨w2.heap.size + 2, 0, none⟩ = some (.int .i64 d) := by rw [← hW3]; simp [go_sem]
    have nb : Aside0 (Below w.heap.size w W3) := ⟨step HB.out hB3⟩
    clear HB hW3 hB3 l1 l2 l3 l4 da0 da1 da2 da3 db0 db1 db2 db3 dz0 dz1 dz2 dz3 ez0 ez1 ez2 ez3
    have HB := nb
    clear nb
    go_wp2_with fail
    have zl : w.heap.size + 2 < w2.heap.size := zl0
    generalize hW4 : W3.drewN (1 + m3) = W4
    have T : ∀ (a : Addr) (v : Value), W3.cell? a = some v → W4.cell? a = some v := fun a v h => by rw [← hW4]; exact h
    have F : ∀ (a : Addr), W3.frozen? a = false → W4.frozen? a = false := fun a h => by rw [← hW4]; exact h
    replace ca0 := T _ _ ca0
    replace ca1 := T _ _ ca1
    replace ca2 := T _ _ ca2
    replace cb0 := T _ _ cb0
    replace cb1 := T _ _ cb1
    replace cb2 := T _ _ cb2
    replace cz0 := T _ _ cz0
    replace fz0 := F _ fz0
    replace cz1 := T _ _ cz1
    replace fz1 := F _ fz1
    replace cz2 := T _ _ cz2
    replace fz2 := F _ fz2
    replace cz3 := T _ _ cz3
    replace fz3 := F _ fz3
    replace cp := T _ _ cp
    replace cq := T _ _ cq
    replace cd := T _ _ cd
    have nb : Aside0 (Below w.heap.size w W4) := ⟨by rw [← hW4]; exact pw_below_drewN HB.out _⟩
    clear HB T F hW4
    have HB := nb
    clear nb
    go_region_held3 (fun w' => w'.cell? ⟨w.heap.size, 0, none⟩ = some (.int .i64 ar) ∧ w'.cell? ⟨w.heap.size, 1, none⟩ = some (.int .i64 ag) ∧ w'.cell? ⟨w.heap.size, 2, none⟩ = some (.int .i64 ab) ∧ w'.cell? ⟨w.heap.size + 1, 0, none⟩ = some (.int .i64 br) ∧ w'.cell? ⟨w.heap.size + 1, 1, none⟩ = some (.int .i64 bg) ∧ w'.cell? ⟨w.heap.size + 1, 2, none⟩ = some (.int .i64 bb) ∧ w'.cell? ⟨w2.heap.size, 0, none⟩ = some (.int .i64 p) ∧ w'.cell? ⟨w2.heap.size + 1, 0, none⟩ = some (.int .i64 q) ∧ w'.cell? ⟨w2.heap.size + 2, 0, none⟩ = some (.int .i64 d))
      (with_reducible (first | exact ⟨kept hb (by assumption), kept hb (by assumption), kept hb (by assumption), kept hb (by assumption), kept hb (by assumption), kept hb (by assumption), kept hb (by assumption), kept hb (by assumption), kept hb (by assumption)⟩ | (go_split_ands; exact ⟨kept hb (by assumption), kept hb (by assumption), kept hb (by assumption), kept hb (by assumption), kept hb (by assumption), kept hb (by assumption), kept hb (by assumption), kept hb (by assumption), kept hb (by assumption)⟩) | (refine ⟨?_, ?_, ?_, ?_, ?_, ?_, ?_, ?_, ?_⟩ <;> first | (simp only [World.cell?_drew]; assumption) | (refine far4 (by dsimp only; omega) ?_; assumption))))
      ((go_at_call 104; refine (HM.out _ _ _ _ _ _ ?_ ?_ ?_ ?_ ?_ ?_ ?_).mono ?_; (first | (with_reducible assumption) | assumption); (first | (with_reducible assumption) | assumption); (first | (with_reducible assumption) | assumption); (first | (with_reducible assumption) | assumption); (first | (with_reducible assumption) | assumption); (first | (with_reducible assumption) | assumption); (first | (with_reducible assumption) | assumption); rintro e w' ⟨rfl, hb⟩; have nb : Aside0 (Below w.heap.size w w') := ⟨step (by repeat (first | exact HB.out | exact Nat.le_succ _ | exact Nat.le_refl _ | refine below_alloc ?_ _ | refine pw_below_drewN ?_ _ | refine below_drew1 ?_ | refine below_set ?_ (by omega))) hb⟩; clear HB; have HB := nb; clear nb; have ca0 : w'.cell? ⟨w.heap.size, 0, none⟩ = some (.int .i64 ar) := kept hb (by first | (with_reducible assumption) | assumption); have ca1 : w'.cell? ⟨w.heap.size, 1, none⟩ = some (.int .i64 ag) := kept hb (by first | (with_reducible assumption) | assumption); have ca2 : w'.cell? ⟨w.heap.size, 2, none⟩ = some (.int .i64 ab) := kept hb (by first | (with_reducible assumption) | assumption); have cb0 : w'.cell? ⟨w.heap.size + 1, 0, none⟩ = some (.int .i64 br) := kept hb (by first | (with_reducible assumption) | assumption); have cb1 : w'.cell? ⟨w.heap.size + 1, 1, none⟩ = some (.int .i64 bg) := kept hb (by first | (with_reducible assumption) | assumption); have cb2 : w'.cell? ⟨w.heap.size + 1, 2, none⟩ = some (.int .i64 bb) := kept hb (by first | (with_reducible assumption) | assumption); have cp : w'.cell? ⟨w2.heap.size, 0, none⟩ = some (.int .i64 p) := kept hb (by first | (with_reducible assumption) | assumption); have cq : w'.cell? ⟨w2.heap.size + 1, 0, none⟩ = some (.int .i64 q) := kept hb (by first | (with_reducible assumption) | assumption); have cd : w'.cell? ⟨w2.heap.size + 2, 0, none⟩ = some (.int .i64 d) := kept hb (by first | (with_reducible assumption) | assumption); have cz0 : w'.cell? ⟨w.heap.size + 2, 0, none⟩ = some (.int .i64 0) := kept hb (by first | (with_reducible assumption) | assumption); have fz0 : w'.frozen? ⟨w.heap.size + 2, 0, none⟩ = false := keptF hb (.int .i64 0) (by first | (with_reducible assumption) | assumption) (by first | (with_reducible assumption) | assumption); have cz1 : w'.cell? ⟨w.heap.size + 2, 1, none⟩ = some (.int .i64 0) := kept hb (by first | (with_reducible assumption) | assumption); have fz1 : w'.frozen? ⟨w.heap.size + 2, 1, none⟩ = false := keptF hb (.int .i64 0) (by first | (with_reducible assumption) | assumption) (by first | (with_reducible assumption) | assumption); have cz2 : w'.cell? ⟨w.heap.size + 2, 2, none⟩ = some (.int .i64 0) := kept hb (by first | (with_reducible assumption) | assumption); have fz2 : w'.frozen? ⟨w.heap.size + 2, 2, none⟩ = false := keptF hb (.int .i64 0) (by first | (with_reducible assumption) | assumption) (by first | (with_reducible assumption) | assumption); have cz3 : w'.cell? ⟨w.heap.size + 2, 3, none⟩ = some (.int .i64 0) := kept hb (by first | (with_reducible assumption) | assumption); have fz3 : w'.frozen? ⟨w.heap.size + 2, 3, none⟩ = false := keptF hb (.int .i64 0) (by first | (with_reducible assumption) | assumption) (by first | (with_reducible assumption) | assumption)))
    go_wp2
    refine bodyPost_ret (v := .agg #[.int .i64 (meanV ar br p q d), .int .i64 (meanV ag bg p q d), .int .i64 (meanV ab bb p q d), .int .i64 A]) (by simp [results, Try.results99, go_sem, cz0, cz1, cz2, cz3]) rfl ⟨rfl, ?_⟩
    repeat (first | exact HB.out | exact Nat.le_succ _ | exact Nat.le_refl _ | refine below_set ?_ (by omega) | refine pw_below_drewN ?_ _ | refine below_drew1 ?_)
  · have zl0 := World.block_lt_of_cell? w2 _ dz0
    go_wp2_with fail
    refine (HD.out _).mono ?_
    rintro e w3 ⟨rfl, m3, rfl⟩
    dsimp only
    generalize hW3 : ((w2.alloc (.cells #[.int .i64 q] 3)).alloc (.cells #[.int .i64 p] 3)).alloc (.cells #[.int .i64 d] 3) = W3
    have hB3 : Below w2.heap.size w2 W3 := by
      rw [← hW3]
      exact below_alloc (below_alloc (below_alloc (Below.refl _ w2) _) _) _
    have ca0 : W3.cell? ⟨w.heap.size, 0, none⟩ = some (.int .i64 ar) := kept hB3 da0
    have ca1 : W3.cell? ⟨w.heap.size, 1, none⟩ = some (.int .i64 ag) := kept hB3 da1
    have ca2 : W3.cell? ⟨w.heap.size, 2, none⟩ = some (.int .i64 ab) := kept hB3 da2
    have cb0 : W3.cell? ⟨w.heap.size + 1, 0, none⟩ = some (.int .i64 br) := kept hB3 db0
    have cb1 : W3.cell? ⟨w.heap.size + 1, 1, none⟩ = some (.int .i64 bg) := kept hB3 db1
    have cb2 : W3.cell? ⟨w.heap.size + 1, 2, none⟩ = some (.int .i64 bb) := kept hB3 db2
    have cz0 : W3.cell? ⟨w.heap.size + 2, 0, none⟩ = some (.int .i64 0) := kept hB3 dz0
    have fz0 : W3.frozen? ⟨w.heap.size + 2, 0, none⟩ = false := keptF hB3 _ dz0 ez0
    have cz1 : W3.cell? ⟨w.heap.size + 2, 1, none⟩ = some (.int .i64 0) := kept hB3 dz1
    have fz1 : W3.frozen? ⟨w.heap.size + 2, 1, none⟩ = false := keptF hB3 _ dz1 ez1
    have cz2 : W3.cell? ⟨w.heap.size + 2, 2, none⟩ = some (.int .i64 0) := kept hB3 dz2
    have fz2 : W3.frozen? ⟨w.heap.size + 2, 2, none⟩ = false := keptF hB3 _ dz2 ez2
    have cz3 : W3.cell? ⟨w.heap.size + 2, 3, none⟩ = some (.int .i64 0) := kept hB3 dz3
    have fz3 : W3.frozen? ⟨w.heap.size + 2, 3, none⟩ = false := keptF hB3 _ dz3 ez3
    have cp : W3.cell? ⟨w2.heap.size + 1, 0, none⟩ = some (.int .i64 p) := by rw [← hW3]; simp [go_sem]
    have cq : W3.cell? ⟨w2.heap.size, 0, none⟩ = some (.int .i64 q) := by rw [← hW3]; simp [go_sem]
    have cd : W3.cell? ⟨w2.heap.size + 2, 0, none⟩ = some (.int .i64 d) := by rw [← hW3]; simp [go_sem]
    have nb : Aside0 (Below w.heap.size w W3) := ⟨step HB.out hB3⟩
    clear HB hW3 hB3 l1 l2 l3 l4 da0 da1 da2 da3 db0 db1 db2 db3 dz0 dz1 dz2 dz3 ez0 ez1 ez2 ez3
    have HB := nb
    clear nb
    go_wp2_with fail
    have zl : w.heap.size + 2 < w2.heap.size := zl0
    generalize hW4 : W3.drewN (1 + m3) = W4
    have T : ∀ (a : Addr) (v : Value), W3.cell? a = some v → W4.cell? a = some v := fun a v h => by rw [← hW4]; exact h
    have F : ∀ (a : Addr), W3.frozen? a = false → W4.frozen? a = false := fun a h => by rw [← hW4]; exact h
    replace ca0 := T _ _ ca0
    replace ca1 := T _ _ ca1
    replace ca2 := T _ _ ca2
    replace cb0 := T _ _ cb0
    replace cb1 := T _ _ cb1
    replace cb2 := T _ _ cb2
    replace cz0 := T _ _ cz0
    replace fz0 := F _ fz0
    replace cz1 := T _ _ cz1
    replace fz1 := F _ fz1
    replace cz2 := T _ _ cz2
    replace fz2 := F _ fz2
    replace cz3 := T _ _ cz3
    replace fz3 := F _ fz3
    replace cp := T _ _ cp
    replace cq := T _ _ cq
    replace cd := T _ _ cd
    have nb : Aside0 (Below w.heap.size w W4) := ⟨by rw [← hW4]; exact pw_below_drewN HB.out _⟩
    clear HB T F hW4
    have HB := nb
    clear nb
    go_region_held3 (fun w' => w'.cell? ⟨w.heap.size, 0, none⟩ = some (.int .i64 ar) ∧ w'.cell? ⟨w.heap.size, 1, none⟩ = some (.int .i64 ag) ∧ w'.cell? ⟨w.heap.size, 2, none⟩ = some (.int .i64 ab) ∧ w'.cell? ⟨w.heap.size + 1, 0, none⟩ = some (.int .i64 br) ∧ w'.cell? ⟨w.heap.size + 1, 1, none⟩ = some (.int .i64 bg) ∧ w'.cell? ⟨w.heap.size + 1, 2, none⟩ = some (.int .i64 bb) ∧ w'.cell? ⟨w2.heap.size + 1, 0, none⟩ = some (.int .i64 p) ∧ w'.cell? ⟨w2.heap.size, 0, none⟩ = some (.int .i64 q) ∧ w'.cell? ⟨w2.heap.size + 2, 0, none⟩ = some (.int .i64 d))
      (with_reducible (first | exact ⟨kept hb (by assumption), kept hb (by assumption), kept hb (by assumption), kept hb (by assumption), kept hb (by assumption), kept hb (by assumption), kept hb (by assumption), kept hb (by assumption), kept hb (by assumption)⟩ | (go_split_ands; exact ⟨kept hb (by assumption), kept hb (by assumption), kept hb (by assumption), kept hb (by assumption), kept hb (by assumption), kept hb (by assumption), kept hb (by assumption), kept hb (by assumption), kept hb (by assumption)⟩) | (refine ⟨?_, ?_, ?_, ?_, ?_, ?_, ?_, ?_, ?_⟩ <;> first | (simp only [World.cell?_drew]; assumption) | (refine far4 (by dsimp only; omega) ?_; assumption))))
      ((go_at_call 104; refine (HM.out _ _ _ _ _ _ ?_ ?_ ?_ ?_ ?_ ?_ ?_).mono ?_; (first | (with_reducible assumption) | assumption); (first | (with_reducible assumption) | assumption); (first | (with_reducible assumption) | assumption); (first | (with_reducible assumption) | assumption); (first | (with_reducible assumption) | assumption); (first | (with_reducible assumption) | assumption); (first | (with_reducible assumption) | assumption); rintro e w' ⟨rfl, hb⟩; have nb : Aside0 (Below w.heap.size w w') := ⟨step (by repeat (first | exact HB.out | exact Nat.le_succ _ | exact Nat.le_refl _ | refine below_alloc ?_ _ | refine pw_below_drewN ?_ _ | refine below_drew1 ?_ | refine below_set ?_ (by omega))) hb⟩; clear HB; have HB := nb; clear nb; have ca0 : w'.cell? ⟨w.heap.size, 0, none⟩ = some (.int .i64 ar) := kept hb (by first | (with_reducible assumption) | assumption); have ca1 : w'.cell? ⟨w.heap.size, 1, none⟩ = some (.int .i64 ag) := kept hb (by first | (with_reducible assumption) | assumption); have ca2 : w'.cell? ⟨w.heap.size, 2, none⟩ = some (.int .i64 ab) := kept hb (by first | (with_reducible assumption) | assumption); have cb0 : w'.cell? ⟨w.heap.size + 1, 0, none⟩ = some (.int .i64 br) := kept hb (by first | (with_reducible assumption) | assumption); have cb1 : w'.cell? ⟨w.heap.size + 1, 1, none⟩ = some (.int .i64 bg) := kept hb (by first | (with_reducible assumption) | assumption); have cb2 : w'.cell? ⟨w.heap.size + 1, 2, none⟩ = some (.int .i64 bb) := kept hb (by first | (with_reducible assumption) | assumption); have cp : w'.cell? ⟨w2.heap.size + 1, 0, none⟩ = some (.int .i64 p) := kept hb (by first | (with_reducible assumption) | assumption); have cq : w'.cell? ⟨w2.heap.size, 0, none⟩ = some (.int .i64 q) := kept hb (by first | (with_reducible assumption) | assumption); have cd : w'.cell? ⟨w2.heap.size + 2, 0, none⟩ = some (.int .i64 d) := kept hb (by first | (with_reducible assumption) | assumption); have cz0 : w'.cell? ⟨w.heap.size + 2, 0, none⟩ = some (.int .i64 0) := kept hb (by first | (with_reducible assumption) | assumption); have fz0 : w'.frozen? ⟨w.heap.size + 2, 0, none⟩ = false := keptF hb (.int .i64 0) (by first | (with_reducible assumption) | assumption) (by first | (with_reducible assumption) | assumption); have cz1 : w'.cell? ⟨w.heap.size + 2, 1, none⟩ = some (.int .i64 0) := kept hb (by first | (with_reducible assumption) | assumption); have fz1 : w'.frozen? ⟨w.heap.size + 2, 1, none⟩ = false := keptF hb (.int .i64 0) (by first | (with_reducible assumption) | assumption) (by first | (with_reducible assumption) | assumption); have cz2 : w'.cell? ⟨w.heap.size + 2, 2, none⟩ = some (.int .i64 0) := kept hb (by first | (with_reducible assumption) | assumption); have fz2 : w'.frozen? ⟨w.heap.size + 2, 2, none⟩ = false := keptF hb (.int .i64 0) (by first | (with_reducible assumption) | assumption) (by first | (with_reducible assumption) | assumption); have cz3 : w'.cell? ⟨w.heap.size + 2, 3, none⟩ = some (.int .i64 0) := kept hb (by first | (with_reducible assumption) | assumption); have fz3 : w'.frozen? ⟨w.heap.size + 2, 3, none⟩ = false := keptF hb (.int .i64 0) (by first | (with_reducible assumption) | assumption) (by first | (with_reducible assumption) | assumption)))
    go_wp2
    refine bodyPost_ret (v := .agg #[.int .i64 (meanV ar br p q d), .int .i64 (meanV ag bg p q d), .int .i64 (meanV ab bb p q d), .int .i64 A]) (by simp [results, Try.results99, go_sem, cz0, cz1, cz2, cz3]) rfl ⟨rfl, ?_⟩
    repeat (first | exact HB.out | exact Nat.le_succ _ | exact Nat.le_refl _ | refine below_set ?_ (by omega) | refine pw_below_drewN ?_ _ | refine below_drew1 ?_)

theorem mix_any (ar ag ab aa br bg bb ba t : Int) (w : World) (U : Vld ar ag ab aa) (V : Vld br bg bb ba) (t0 : 0 ≤ t) (t1 : t ≤ 65535) :
    Calls Try.prog 99 #[.agg #[.int .i64 ar, .int .i64 ag, .int .i64 ab, .int .i64 aa], .agg #[.int .i64 br, .int .i64 bg, .int .i64 bb, .int .i64 ba], .int .i64 t] w fun e w' => e = .returned (mixPix ar ag ab aa br bg bb ba t) ∧ Below w.heap.size w w' := by
  unfold mixPix
  by_cases h : mixA aa ba t = 0
  · rw [if_pos h]
    exact mix_zero ar ag ab aa br bg bb ba t _ _ _ _ w U V t0 t1 rfl rfl rfl rfl (by simpa [mixA] using h)
  · rw [if_neg h]
    exact mix_some ar ag ab aa br bg bb ba t _ _ _ _ w U V t0 t1 rfl rfl rfl rfl (by simpa [mixA] using h)
end Go.Proofs.Ytmgpmpiondciiaa.Adj
