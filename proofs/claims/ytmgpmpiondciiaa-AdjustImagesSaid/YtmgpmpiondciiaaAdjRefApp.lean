/- The reference's apply as contracts, kind by kind. No condition but the bounds of each theorem. -/
import Derived.Test.YtmgpmpiondciiaaAdjRefCv
import Derived.Test.YtmgpmpiondciiaaAdjRefMap
import Derived.Test.YtmgpmpiondciiaaAdjRefHsl
import Derived.Test.YtmgpmpiondciiaaAdjRefFrom
namespace Go.Proofs.Ytmgpmpiondciiaa.Adj
open Go.RowKit Go.Proofs.Ytmgpmpiondciiaa.PAdjustImages Go.Proofs.YtmgpmpiondciiaaW.PrintWords Go.Proofs.YtmgpmpiondciiaaW.PrintMore Go.Proofs.Ytmgpmpiondciiaa.Plain
def mixL (l : List Int) (r g b : Int) : Nat → List Int
  | 0 => []
  | n + 1 => mixL l r g b n ++ [mixerV (rd l (3 * (n : Int))) (rd l (3 * (n : Int) + 1)) (rd l (3 * (n : Int) + 2)) r g b]
theorem mixL_len (l : List Int) (r g b : Int) : ∀ n, (mixL l r g b n).length = n
  | 0 => rfl
  | n + 1 => by unfold mixL; rw [List.length_append, mixL_len l r g b n]; rfl
theorem info3' : (Try.prog.info? 3).map (fun i => (i.zero, i.size, i.bytes)) = some (some (.int .i64 0), 1, 8) := by kernel_rfl
theorem mulRX (a b : Int) (w : World) : Calls Try.prog 89 #[.int .i64 a, .int .i64 b] w fun e w' => e = .returned (.int .i64 (rdiv (lim a * lim b) 65535)) ∧ Below w.heap.size w w' := by
  refine imageeditorref01_Mul.calls 1 a b _ w ?_
  obtain ⟨a0, a1⟩ := lim_range a
  obtain ⟨b0, b1⟩ := lim_range b
  have h1 : lim a * lim b ≤ 65535 * lim b := Int.mul_le_mul_of_nonneg_right a1 b0
  have h0 : 0 ≤ lim a * lim b := Int.mul_nonneg a0 b0
  unfold imageeditorref01_Mul.f
  rw [refunit_f, refunit_f]
  simp only [Option.bind_some]
  rw [wr (lim a * lim b) (by omega) (by omega), refdiv_f 1 _ _ (by omega) (by omega) (by omega) (by omega) (by omega)]
  rfl
set_option maxRecDepth 100000 in
set_option maxHeartbeats 8000000 in
theorem rapp_0 (k : Int) (P sv : Value) (R G B A : Int) (w : World) (qa : (A == 0) = true) :
    Calls Try.prog 57 #[.int .i64 k, P, sv, .agg #[.int .i64 R, .int .i64 G, .int .i64 B, .int .i64 A]] w fun e w' => e = .returned (.agg #[.int .i64 0, .int .i64 0, .int .i64 0, .int .i64 0]) ∧ Below w.heap.size w w' := by
  go_enter Try.func57, Try.ntmps57
  go_wp2_with fail
  generalize hW : (w.alloc (.cells #[.int .i64 R, .int .i64 G, .int .i64 B, .int .i64 A] 45)).alloc (.cells #[.int .i64 0, .int .i64 0, .int .i64 0, .int .i64 0] 45) = W
  obtain ⟨X0, X1, XB⟩ := two _ _ _ _ hW
  clear hW
  have z0 : W.cell? ⟨w.heap.size + 1, 0, none⟩ = some (.int .i64 0) := (blk_cell X1 0).trans rfl
  have fz0 := blk_frozen X1 0
  have z1 : W.cell? ⟨w.heap.size + 1, 1, none⟩ = some (.int .i64 0) := (blk_cell X1 1).trans rfl
  have fz1 := blk_frozen X1 1
  have z2 : W.cell? ⟨w.heap.size + 1, 2, none⟩ = some (.int .i64 0) := (blk_cell X1 2).trans rfl
  have fz2 := blk_frozen X1 2
  have z3 : W.cell? ⟨w.heap.size + 1, 3, none⟩ = some (.int .i64 0) := (blk_cell X1 3).trans rfl
  have fz3 := blk_frozen X1 3
  have HB := Aside0.mk XB
  clear X0 X1 XB
  go_wp2
  refine bodyPost_ret (v := .agg #[.int .i64 0, .int .i64 0, .int .i64 0, .int .i64 0]) (by simp [results, Try.results57, go_sem, z0, z1, z2, z3]) rfl ⟨rfl, ?_⟩
  repeat (first | exact HB.out | refine below_set ?_ (by omega) | refine pw_below_drewN ?_ _ | refine below_drew1 ?_)
set_option maxRecDepth 100000 in
set_option maxHeartbeats 8000000 in
theorem rapp_chan (f : Int → Int) (k : Int) (P sv : Value) (R G B A : Int) (w : World) (V : Vld R G B A) (qa : (A == 0) = false) (q5 : (k == 5) = false) (q6 : (k == 6) = false) (q8 : (k == 8) = false) (q9 : (k == 9) = false) (q10 : (k == 10) = false)
    (HS : Aside0 (∀ c w1, 0 ≤ c → c ≤ 65535 → Below w.heap.size w w1 → Calls Try.prog 92 #[.int .i64 k, P, .int .i64 c] w1 fun e w' => e = .returned (.int .i64 (f c)) ∧ Below w1.heap.size w1 w')) :
    Calls Try.prog 57 #[.int .i64 k, P, sv, .agg #[.int .i64 R, .int .i64 G, .int .i64 B, .int .i64 A]] w fun e w' => e = .returned (.agg #[.int .i64 (f R), .int .i64 (f G), .int .i64 (f B), .int .i64 A]) ∧ Below w.heap.size w w' := by
  obtain ⟨r0, r1, g0, g1, b0, b1, a0, a1⟩ := V
  go_enter Try.func57, Try.ntmps57
  go_wp2_with fail
  generalize hW : (w.alloc (.cells #[.int .i64 R, .int .i64 G, .int .i64 B, .int .i64 A] 45)).alloc (.cells #[.int .i64 0, .int .i64 0, .int .i64 0, .int .i64 0] 45) = W
  obtain ⟨X0, X1, XB⟩ := two _ _ _ _ hW
  clear hW
  have cp0 : W.cell? ⟨w.heap.size, 0, none⟩ = some (.int .i64 R) := (blk_cell X0 0).trans rfl
  have cp1 : W.cell? ⟨w.heap.size, 1, none⟩ = some (.int .i64 G) := (blk_cell X0 1).trans rfl
  have cp2 : W.cell? ⟨w.heap.size, 2, none⟩ = some (.int .i64 B) := (blk_cell X0 2).trans rfl
  have cp3 : W.cell? ⟨w.heap.size, 3, none⟩ = some (.int .i64 A) := (blk_cell X0 3).trans rfl
  have z0 : W.cell? ⟨w.heap.size + 1, 0, none⟩ = some (.int .i64 0) := (blk_cell X1 0).trans rfl
  have fz0 := blk_frozen X1 0
  have z1 : W.cell? ⟨w.heap.size + 1, 1, none⟩ = some (.int .i64 0) := (blk_cell X1 1).trans rfl
  have fz1 := blk_frozen X1 1
  have z2 : W.cell? ⟨w.heap.size + 1, 2, none⟩ = some (.int .i64 0) := (blk_cell X1 2).trans rfl
  have fz2 := blk_frozen X1 2
  have z3 : W.cell? ⟨w.heap.size + 1, 3, none⟩ = some (.int .i64 0) := (blk_cell X1 3).trans rfl
  have fz3 := blk_frozen X1 3
  have HB := Aside0.mk XB
  clear X0 X1 XB
  go_region_held3 (fun w' => w'.cell? ⟨w.heap.size, 0, none⟩ = some (.int .i64 R) ∧ w'.cell? ⟨w.heap.size, 1, none⟩ = some (.int .i64 G) ∧ w'.cell? ⟨w.heap.size, 2, none⟩ = some (.int .i64 B) ∧ w'.cell? ⟨w.heap.size, 3, none⟩ = some (.int .i64 A))
    (with_reducible (first | exact ⟨kept hb (by assumption), kept hb (by assumption), kept hb (by assumption), kept hb (by assumption)⟩ | (go_split_ands; exact ⟨kept hb (by assumption), kept hb (by assumption), kept hb (by assumption), kept hb (by assumption)⟩) | (refine ⟨?_, ?_, ?_, ?_⟩ <;> first | (simp only [World.cell?_drew]; assumption) | (refine far4 (by first | omega | (dsimp only; omega)) ?_; assumption))))
    ((go_at_call 92; refine (HS.out _ _ ?_ ?_ ?_).mono ?_; assumption; assumption; (with_reducible repeat (first | exact HB.out | refine below_alloc ?_ _ | refine pw_below_drewN ?_ _ | refine below_drew1 ?_ | refine below_set ?_ (by omega))); rintro e w' ⟨rfl, hb⟩; have nb : Aside0 (Below w.heap.size w w') := ⟨step (by with_reducible repeat (first | exact HB.out | refine below_alloc ?_ _ | refine pw_below_drewN ?_ _ | refine below_drew1 ?_ | refine below_set ?_ (by omega))) hb⟩; clear HB; have HB := nb; clear nb; have cp0 : w'.cell? ⟨w.heap.size, 0, none⟩ = some (.int .i64 R) := kept hb (by first | (with_reducible assumption) | exact kd (by with_reducible assumption)); have cp1 : w'.cell? ⟨w.heap.size, 1, none⟩ = some (.int .i64 G) := kept hb (by first | (with_reducible assumption) | exact kd (by with_reducible assumption)); have cp2 : w'.cell? ⟨w.heap.size, 2, none⟩ = some (.int .i64 B) := kept hb (by first | (with_reducible assumption) | exact kd (by with_reducible assumption)); have cp3 : w'.cell? ⟨w.heap.size, 3, none⟩ = some (.int .i64 A) := kept hb (by first | (with_reducible assumption) | exact kd (by with_reducible assumption)); have z0 : w'.cell? ⟨w.heap.size + 1, 0, none⟩ = some (.int .i64 0) := kept hb (by first | (with_reducible assumption) | exact kd (by with_reducible assumption)); have fz0 : w'.frozen? ⟨w.heap.size + 1, 0, none⟩ = false := keptF hb (.int .i64 0) (by first | (with_reducible assumption) | exact kd (by with_reducible assumption)) (by first | (with_reducible assumption) | exact kf (by with_reducible assumption)); have z1 : w'.cell? ⟨w.heap.size + 1, 1, none⟩ = some (.int .i64 0) := kept hb (by first | (with_reducible assumption) | exact kd (by with_reducible assumption)); have fz1 : w'.frozen? ⟨w.heap.size + 1, 1, none⟩ = false := keptF hb (.int .i64 0) (by first | (with_reducible assumption) | exact kd (by with_reducible assumption)) (by first | (with_reducible assumption) | exact kf (by with_reducible assumption)); have z2 : w'.cell? ⟨w.heap.size + 1, 2, none⟩ = some (.int .i64 0) := kept hb (by first | (with_reducible assumption) | exact kd (by with_reducible assumption)); have fz2 : w'.frozen? ⟨w.heap.size + 1, 2, none⟩ = false := keptF hb (.int .i64 0) (by first | (with_reducible assumption) | exact kd (by with_reducible assumption)) (by first | (with_reducible assumption) | exact kf (by with_reducible assumption)); have z3 : w'.cell? ⟨w.heap.size + 1, 3, none⟩ = some (.int .i64 0) := kept hb (by first | (with_reducible assumption) | exact kd (by with_reducible assumption)); have fz3 : w'.frozen? ⟨w.heap.size + 1, 3, none⟩ = false := keptF hb (.int .i64 0) (by first | (with_reducible assumption) | exact kd (by with_reducible assumption)) (by first | (with_reducible assumption) | exact kf (by with_reducible assumption))))
  go_wp2
  refine bodyPost_ret (v := .agg #[.int .i64 (f R), .int .i64 (f G), .int .i64 (f B), .int .i64 A]) (by simp [results, Try.results57, go_sem, z0, z1, z2, z3]) rfl ⟨rfl, ?_⟩
  repeat (first | exact HB.out | refine below_set ?_ (by omega) | refine pw_below_drewN ?_ _ | refine below_drew1 ?_)
set_option maxRecDepth 100000 in
set_option maxHeartbeats 8000000 in
theorem rapp_6t (ad : Addr) (cap : Nat) (sv : Value) (p0 : Int) (R G B A : Int) (w : World) (V : Vld R G B A) (qa : (A == 0) = false) (hp0 : w.cell? ad = some (.int .i64 p0)) (hl : p0 ≤ lumaV R G B) :
    Calls Try.prog 57 #[.int .i64 6, .slice (some ad) 1 cap, sv, .agg #[.int .i64 R, .int .i64 G, .int .i64 B, .int .i64 A]] w fun e w' => e = .returned (.agg #[.int .i64 65535, .int .i64 65535, .int .i64 65535, .int .i64 A]) ∧ Below w.heap.size w w' := by
  have HM : Aside0 (∀ w, Calls Try.prog 90 #[.agg #[.int .i64 R, .int .i64 G, .int .i64 B, .int .i64 A]] w fun e w' => e = .returned (.int .i64 (lumaV R G B)) ∧ Below w.heap.size w w') := ⟨fun w => lumaR R G B A w V⟩
  have g0 : decide (p0 ≤ lumaV R G B) = true := decide_eq_true hl
  have HP := Aside0.mk hp0
  clear V hl hp0
  go_enter Try.func57, Try.ntmps57
  go_wp2_with fail
  generalize hW : (w.alloc (.cells #[.int .i64 R, .int .i64 G, .int .i64 B, .int .i64 A] 45)).alloc (.cells #[.int .i64 0, .int .i64 0, .int .i64 0, .int .i64 0] 45) = W
  obtain ⟨X0, X1, XB⟩ := two _ _ _ _ hW
  clear hW
  have cp0 : W.cell? ⟨w.heap.size, 0, none⟩ = some (.int .i64 R) := (blk_cell X0 0).trans rfl
  have cp1 : W.cell? ⟨w.heap.size, 1, none⟩ = some (.int .i64 G) := (blk_cell X0 1).trans rfl
  have cp2 : W.cell? ⟨w.heap.size, 2, none⟩ = some (.int .i64 B) := (blk_cell X0 2).trans rfl
  have cp3 : W.cell? ⟨w.heap.size, 3, none⟩ = some (.int .i64 A) := (blk_cell X0 3).trans rfl
  have z0 : W.cell? ⟨w.heap.size + 1, 0, none⟩ = some (.int .i64 0) := (blk_cell X1 0).trans rfl
  have fz0 := blk_frozen X1 0
  have z1 : W.cell? ⟨w.heap.size + 1, 1, none⟩ = some (.int .i64 0) := (blk_cell X1 1).trans rfl
  have fz1 := blk_frozen X1 1
  have z2 : W.cell? ⟨w.heap.size + 1, 2, none⟩ = some (.int .i64 0) := (blk_cell X1 2).trans rfl
  have fz2 := blk_frozen X1 2
  have z3 : W.cell? ⟨w.heap.size + 1, 3, none⟩ = some (.int .i64 0) := (blk_cell X1 3).trans rfl
  have fz3 := blk_frozen X1 3
  have q0 : W.cell? ad = some (.int .i64 p0) := kept XB HP.out
  have HB := Aside0.mk XB
  clear X0 X1 XB
  go_region_held3 (fun w' => w'.cell? ⟨w.heap.size, 0, none⟩ = some (.int .i64 R) ∧ w'.cell? ⟨w.heap.size, 1, none⟩ = some (.int .i64 G) ∧ w'.cell? ⟨w.heap.size, 2, none⟩ = some (.int .i64 B) ∧ w'.cell? ⟨w.heap.size, 3, none⟩ = some (.int .i64 A) ∧ w'.cell? ad = some (.int .i64 p0))
    (with_reducible (first | exact ⟨kept hb (by assumption), kept hb (by assumption), kept hb (by assumption), kept hb (by assumption), kept hb (by assumption)⟩ | (go_split_ands; exact ⟨kept hb (by assumption), kept hb (by assumption), kept hb (by assumption), kept hb (by assumption), kept hb (by assumption)⟩) | (refine ⟨?_, ?_, ?_, ?_, ?_⟩ <;> first | (simp only [World.cell?_drew]; assumption) | (refine far4 (by first | omega | (dsimp only; omega)) ?_; assumption))))
    ((go_at_call 90; refine (HM.out _).mono ?_; rintro e w' ⟨rfl, hb⟩; have nb : Aside0 (Below w.heap.size w w') := ⟨step (by with_reducible repeat (first | exact HB.out | refine below_alloc ?_ _ | refine pw_below_drewN ?_ _ | refine below_drew1 ?_ | refine below_set ?_ (by omega))) hb⟩; clear HB; have HB := nb; clear nb; have cp0 : w'.cell? ⟨w.heap.size, 0, none⟩ = some (.int .i64 R) := kept hb (by first | (with_reducible assumption) | exact kd (by with_reducible assumption)); have cp1 : w'.cell? ⟨w.heap.size, 1, none⟩ = some (.int .i64 G) := kept hb (by first | (with_reducible assumption) | exact kd (by with_reducible assumption)); have cp2 : w'.cell? ⟨w.heap.size, 2, none⟩ = some (.int .i64 B) := kept hb (by first | (with_reducible assumption) | exact kd (by with_reducible assumption)); have cp3 : w'.cell? ⟨w.heap.size, 3, none⟩ = some (.int .i64 A) := kept hb (by first | (with_reducible assumption) | exact kd (by with_reducible assumption)); have z0 : w'.cell? ⟨w.heap.size + 1, 0, none⟩ = some (.int .i64 0) := kept hb (by first | (with_reducible assumption) | exact kd (by with_reducible assumption)); have fz0 : w'.frozen? ⟨w.heap.size + 1, 0, none⟩ = false := keptF hb (.int .i64 0) (by first | (with_reducible assumption) | exact kd (by with_reducible assumption)) (by first | (with_reducible assumption) | exact kf (by with_reducible assumption)); have z1 : w'.cell? ⟨w.heap.size + 1, 1, none⟩ = some (.int .i64 0) := kept hb (by first | (with_reducible assumption) | exact kd (by with_reducible assumption)); have fz1 : w'.frozen? ⟨w.heap.size + 1, 1, none⟩ = false := keptF hb (.int .i64 0) (by first | (with_reducible assumption) | exact kd (by with_reducible assumption)) (by first | (with_reducible assumption) | exact kf (by with_reducible assumption)); have z2 : w'.cell? ⟨w.heap.size + 1, 2, none⟩ = some (.int .i64 0) := kept hb (by first | (with_reducible assumption) | exact kd (by with_reducible assumption)); have fz2 : w'.frozen? ⟨w.heap.size + 1, 2, none⟩ = false := keptF hb (.int .i64 0) (by first | (with_reducible assumption) | exact kd (by with_reducible assumption)) (by first | (with_reducible assumption) | exact kf (by with_reducible assumption)); have z3 : w'.cell? ⟨w.heap.size + 1, 3, none⟩ = some (.int .i64 0) := kept hb (by first | (with_reducible assumption) | exact kd (by with_reducible assumption)); have fz3 : w'.frozen? ⟨w.heap.size + 1, 3, none⟩ = false := keptF hb (.int .i64 0) (by first | (with_reducible assumption) | exact kd (by with_reducible assumption)) (by first | (with_reducible assumption) | exact kf (by with_reducible assumption)); have q0 : w'.cell? ad = some (.int .i64 p0) := kept hb (by first | (with_reducible assumption) | exact kd (by with_reducible assumption))))
  go_wp2
  refine bodyPost_ret (v := .agg #[.int .i64 65535, .int .i64 65535, .int .i64 65535, .int .i64 A]) (by simp [results, Try.results57, go_sem, z0, z1, z2, z3]) rfl ⟨rfl, ?_⟩
  repeat (first | exact HB.out | refine below_set ?_ (by omega) | refine pw_below_drewN ?_ _ | refine below_drew1 ?_)
set_option maxRecDepth 100000 in
set_option maxHeartbeats 8000000 in
theorem rapp_6f (ad : Addr) (cap : Nat) (sv : Value) (p0 : Int) (R G B A : Int) (w : World) (V : Vld R G B A) (qa : (A == 0) = false) (hp0 : w.cell? ad = some (.int .i64 p0)) (hl : ¬ p0 ≤ lumaV R G B) :
    Calls Try.prog 57 #[.int .i64 6, .slice (some ad) 1 cap, sv, .agg #[.int .i64 R, .int .i64 G, .int .i64 B, .int .i64 A]] w fun e w' => e = .returned (.agg #[.int .i64 0, .int .i64 0, .int .i64 0, .int .i64 A]) ∧ Below w.heap.size w w' := by
  have HM : Aside0 (∀ w, Calls Try.prog 90 #[.agg #[.int .i64 R, .int .i64 G, .int .i64 B, .int .i64 A]] w fun e w' => e = .returned (.int .i64 (lumaV R G B)) ∧ Below w.heap.size w w') := ⟨fun w => lumaR R G B A w V⟩
  have g0 : decide (p0 ≤ lumaV R G B) = false := decide_eq_false hl
  have HP := Aside0.mk hp0
  clear V hl hp0
  go_enter Try.func57, Try.ntmps57
  go_wp2_with fail
  generalize hW : (w.alloc (.cells #[.int .i64 R, .int .i64 G, .int .i64 B, .int .i64 A] 45)).alloc (.cells #[.int .i64 0, .int .i64 0, .int .i64 0, .int .i64 0] 45) = W
  obtain ⟨X0, X1, XB⟩ := two _ _ _ _ hW
  clear hW
  have cp0 : W.cell? ⟨w.heap.size, 0, none⟩ = some (.int .i64 R) := (blk_cell X0 0).trans rfl
  have cp1 : W.cell? ⟨w.heap.size, 1, none⟩ = some (.int .i64 G) := (blk_cell X0 1).trans rfl
  have cp2 : W.cell? ⟨w.heap.size, 2, none⟩ = some (.int .i64 B) := (blk_cell X0 2).trans rfl
  have cp3 : W.cell? ⟨w.heap.size, 3, none⟩ = some (.int .i64 A) := (blk_cell X0 3).trans rfl
  have z0 : W.cell? ⟨w.heap.size + 1, 0, none⟩ = some (.int .i64 0) := (blk_cell X1 0).trans rfl
  have fz0 := blk_frozen X1 0
  have z1 : W.cell? ⟨w.heap.size + 1, 1, none⟩ = some (.int .i64 0) := (blk_cell X1 1).trans rfl
  have fz1 := blk_frozen X1 1
  have z2 : W.cell? ⟨w.heap.size + 1, 2, none⟩ = some (.int .i64 0) := (blk_cell X1 2).trans rfl
  have fz2 := blk_frozen X1 2
  have z3 : W.cell? ⟨w.heap.size + 1, 3, none⟩ = some (.int .i64 0) := (blk_cell X1 3).trans rfl
  have fz3 := blk_frozen X1 3
  have q0 : W.cell? ad = some (.int .i64 p0) := kept XB HP.out
  have HB := Aside0.mk XB
  clear X0 X1 XB
  go_region_held3 (fun w' => w'.cell? ⟨w.heap.size, 0, none⟩ = some (.int .i64 R) ∧ w'.cell? ⟨w.heap.size, 1, none⟩ = some (.int .i64 G) ∧ w'.cell? ⟨w.heap.size, 2, none⟩ = some (.int .i64 B) ∧ w'.cell? ⟨w.heap.size, 3, none⟩ = some (.int .i64 A) ∧ w'.cell? ad = some (.int .i64 p0))
    (with_reducible (first | exact ⟨kept hb (by assumption), kept hb (by assumption), kept hb (by assumption), kept hb (by assumption), kept hb (by assumption)⟩ | (go_split_ands; exact ⟨kept hb (by assumption), kept hb (by assumption), kept hb (by assumption), kept hb (by assumption), kept hb (by assumption)⟩) | (refine ⟨?_, ?_, ?_, ?_, ?_⟩ <;> first | (simp only [World.cell?_drew]; assumption) | (refine far4 (by first | omega | (dsimp only; omega)) ?_; assumption))))
    ((go_at_call 90; refine (HM.out _).mono ?_; rintro e w' ⟨rfl, hb⟩; have nb : Aside0 (Below w.heap.size w w') := ⟨step (by with_reducible repeat (first | exact HB.out | refine below_alloc ?_ _ | refine pw_below_drewN ?_ _ | refine below_drew1 ?_ | refine below_set ?_ (by omega))) hb⟩; clear HB; have HB := nb; clear nb; have cp0 : w'.cell? ⟨w.heap.size, 0, none⟩ = some (.int .i64 R) := kept hb (by first | (with_reducible assumption) | exact kd (by with_reducible assumption)); have cp1 : w'.cell? ⟨w.heap.size, 1, none⟩ = some (.int .i64 G) := kept hb (by first | (with_reducible assumption) | exact kd (by with_reducible assumption)); have cp2 : w'.cell? ⟨w.heap.size, 2, none⟩ = some (.int .i64 B) := kept hb (by first | (with_reducible assumption) | exact kd (by with_reducible assumption)); have cp3 : w'.cell? ⟨w.heap.size, 3, none⟩ = some (.int .i64 A) := kept hb (by first | (with_reducible assumption) | exact kd (by with_reducible assumption)); have z0 : w'.cell? ⟨w.heap.size + 1, 0, none⟩ = some (.int .i64 0) := kept hb (by first | (with_reducible assumption) | exact kd (by with_reducible assumption)); have fz0 : w'.frozen? ⟨w.heap.size + 1, 0, none⟩ = false := keptF hb (.int .i64 0) (by first | (with_reducible assumption) | exact kd (by with_reducible assumption)) (by first | (with_reducible assumption) | exact kf (by with_reducible assumption)); have z1 : w'.cell? ⟨w.heap.size + 1, 1, none⟩ = some (.int .i64 0) := kept hb (by first | (with_reducible assumption) | exact kd (by with_reducible assumption)); have fz1 : w'.frozen? ⟨w.heap.size + 1, 1, none⟩ = false := keptF hb (.int .i64 0) (by first | (with_reducible assumption) | exact kd (by with_reducible assumption)) (by first | (with_reducible assumption) | exact kf (by with_reducible assumption)); have z2 : w'.cell? ⟨w.heap.size + 1, 2, none⟩ = some (.int .i64 0) := kept hb (by first | (with_reducible assumption) | exact kd (by with_reducible assumption)); have fz2 : w'.frozen? ⟨w.heap.size + 1, 2, none⟩ = false := keptF hb (.int .i64 0) (by first | (with_reducible assumption) | exact kd (by with_reducible assumption)) (by first | (with_reducible assumption) | exact kf (by with_reducible assumption)); have z3 : w'.cell? ⟨w.heap.size + 1, 3, none⟩ = some (.int .i64 0) := kept hb (by first | (with_reducible assumption) | exact kd (by with_reducible assumption)); have fz3 : w'.frozen? ⟨w.heap.size + 1, 3, none⟩ = false := keptF hb (.int .i64 0) (by first | (with_reducible assumption) | exact kd (by with_reducible assumption)) (by first | (with_reducible assumption) | exact kf (by with_reducible assumption)); have q0 : w'.cell? ad = some (.int .i64 p0) := kept hb (by first | (with_reducible assumption) | exact kd (by with_reducible assumption))))
  go_wp2
  refine bodyPost_ret (v := .agg #[.int .i64 0, .int .i64 0, .int .i64 0, .int .i64 A]) (by simp [results, Try.results57, go_sem, z0, z1, z2, z3]) rfl ⟨rfl, ?_⟩
  repeat (first | exact HB.out | refine below_set ?_ (by omega) | refine pw_below_drewN ?_ _ | refine below_drew1 ?_)
set_option maxRecDepth 100000 in
set_option maxHeartbeats 8000000 in
theorem rapp_9 (ad : Addr) (cap : Nat) (sv : Value) (p0 p1 p2 : Int) (R G B A : Int) (w : World) (V : Vld R G B A) (qa : (A == 0) = false) (hp0 : w.cell? ad = some (.int .i64 p0)) (hp1 : w.cell? ⟨ad.block, ad.off + 1, none⟩ = some (.int .i64 p1)) (hp2 : w.cell? ⟨ad.block, ad.off + 2, none⟩ = some (.int .i64 p2)) (a0 : 0 ≤ p0) (a1 : p0 ≤ 65535) (b0 : 0 ≤ p1) (b1 : p1 ≤ 65535) (d0 : 0 ≤ p2) (d1 : p2 ≤ 65535) (hs : 0 < p0 + p1 + p2) :
    Calls Try.prog 57 #[.int .i64 9, .slice (some ad) 3 cap, sv, .agg #[.int .i64 R, .int .i64 G, .int .i64 B, .int .i64 A]] w fun e w' => e = .returned (.agg #[.int .i64 (grayV p0 p1 p2 R G B), .int .i64 (grayV p0 p1 p2 R G B), .int .i64 (grayV p0 p1 p2 R G B), .int .i64 A]) ∧ Below w.heap.size w w' := by
  obtain ⟨r0, r1, g0, g1, l0, l1, _, _⟩ := V
  obtain ⟨m0, m1⟩ := prod_small p0 R a0 a1 r0 r1
  obtain ⟨m2, m3⟩ := prod_small p1 G b0 b1 g0 g1
  obtain ⟨m4, m5⟩ := prod_small p2 B d0 d1 l0 l1
  have e1 := wi (p0 * R) (by omega) (by omega)
  have e2 := wi (p1 * G) (by omega) (by omega)
  have e3 := wi (p2 * B) (by omega) (by omega)
  have e4 := wi (p0 * R + p1 * G) (by omega) (by omega)
  have e5 := wi (p0 * R + p1 * G + p2 * B) (by omega) (by omega)
  have e6 := wi (p0 + p1) (by omega) (by omega)
  have e7 := wi (p0 + p1 + p2) (by omega) (by omega)
  have HD : Aside0 (∀ w, Qt 53 #[.int .i64 (p0 * R + p1 * G + p2 * B), .int .i64 (p0 + p1 + p2)] w (.int .i64 (grayV p0 p1 p2 R G B))) := ⟨fun w => rdivR _ _ w hs (by omega) (by omega) (by omega)⟩
  have P0 := Aside0.mk hp0
  have P1 := Aside0.mk hp1
  have P2 := Aside0.mk hp2
  clear hp0 hp1 hp2 m0 m1 m2 m3 m4 m5
  go_enter Try.func57, Try.ntmps57
  go_wp2_with fail
  generalize hW : (w.alloc (.cells #[.int .i64 R, .int .i64 G, .int .i64 B, .int .i64 A] 45)).alloc (.cells #[.int .i64 0, .int .i64 0, .int .i64 0, .int .i64 0] 45) = W
  obtain ⟨X0, X1, XB⟩ := two _ _ _ _ hW
  clear hW
  have cp0 : W.cell? ⟨w.heap.size, 0, none⟩ = some (.int .i64 R) := (blk_cell X0 0).trans rfl
  have cp1 : W.cell? ⟨w.heap.size, 1, none⟩ = some (.int .i64 G) := (blk_cell X0 1).trans rfl
  have cp2 : W.cell? ⟨w.heap.size, 2, none⟩ = some (.int .i64 B) := (blk_cell X0 2).trans rfl
  have cp3 : W.cell? ⟨w.heap.size, 3, none⟩ = some (.int .i64 A) := (blk_cell X0 3).trans rfl
  have z0 : W.cell? ⟨w.heap.size + 1, 0, none⟩ = some (.int .i64 0) := (blk_cell X1 0).trans rfl
  have fz0 := blk_frozen X1 0
  have z1 : W.cell? ⟨w.heap.size + 1, 1, none⟩ = some (.int .i64 0) := (blk_cell X1 1).trans rfl
  have fz1 := blk_frozen X1 1
  have z2 : W.cell? ⟨w.heap.size + 1, 2, none⟩ = some (.int .i64 0) := (blk_cell X1 2).trans rfl
  have fz2 := blk_frozen X1 2
  have z3 : W.cell? ⟨w.heap.size + 1, 3, none⟩ = some (.int .i64 0) := (blk_cell X1 3).trans rfl
  have fz3 := blk_frozen X1 3
  have q0 : W.cell? ad = some (.int .i64 p0) := kept XB P0.out
  have q1 : W.cell? ⟨ad.block, ad.off + 1, none⟩ = some (.int .i64 p1) := kept XB P1.out
  have q2 : W.cell? ⟨ad.block, ad.off + 2, none⟩ = some (.int .i64 p2) := kept XB P2.out
  have HB := Aside0.mk XB
  clear X0 X1 XB
  go_quiet (first | (go_at_call 53; first | exact Qt.at (HD.out _) | exact Qt.at2 (HD.out _)))
  go_wp2
  refine bodyPost_ret (v := .agg #[.int .i64 (grayV p0 p1 p2 R G B), .int .i64 (grayV p0 p1 p2 R G B), .int .i64 (grayV p0 p1 p2 R G B), .int .i64 A]) (by simp [results, Try.results57, go_sem, z0, z1, z2, z3]) rfl ⟨rfl, ?_⟩
  repeat (first | exact HB.out | refine below_set ?_ (by omega) | refine pw_below_drewN ?_ _ | refine below_drew1 ?_)
set_option maxRecDepth 100000 in
set_option maxHeartbeats 8000000 in
theorem rapp_10 (Pv : Value) (S : Option Addr) (sc : Nat) (l : List S74) (v0 v1 v2 v3 : Int) (R G B A : Int) (w : World) (V : Vld R G B A) (qa : (A == 0) = false) (hr : Kd.C k74 w S l.length l) (hc : l.length ≤ sc) (HG : GoodStops l) (hq : mappedPix l (lumaV R G B) = .agg #[.int .i64 v0, .int .i64 v1, .int .i64 v2, .int .i64 v3]) :
    Calls Try.prog 57 #[.int .i64 10, Pv, .slice S l.length sc, .agg #[.int .i64 R, .int .i64 G, .int .i64 B, .int .i64 A]] w fun e w' => e = .returned (.agg #[.int .i64 v0, .int .i64 v1, .int .i64 v2, .int .i64 A]) ∧ Below w.heap.size w w' := by
  have HV := Aside0.mk V
  have HR := Aside0.mk hr
  have HQ := Aside0.mk hq
  have HL := Aside0.mk (luma_range R G B A V)
  clear V hr hq
  go_enter Try.func57, Try.ntmps57
  go_wp2_with fail
  generalize hW : (w.alloc (.cells #[.int .i64 R, .int .i64 G, .int .i64 B, .int .i64 A] 45)).alloc (.cells #[.int .i64 0, .int .i64 0, .int .i64 0, .int .i64 0] 45) = W
  obtain ⟨X0, X1, XB⟩ := two _ _ _ _ hW
  clear hW
  have cp0 : W.cell? ⟨w.heap.size, 0, none⟩ = some (.int .i64 R) := (blk_cell X0 0).trans rfl
  have cp1 : W.cell? ⟨w.heap.size, 1, none⟩ = some (.int .i64 G) := (blk_cell X0 1).trans rfl
  have cp2 : W.cell? ⟨w.heap.size, 2, none⟩ = some (.int .i64 B) := (blk_cell X0 2).trans rfl
  have cp3 : W.cell? ⟨w.heap.size, 3, none⟩ = some (.int .i64 A) := (blk_cell X0 3).trans rfl
  have z0 : W.cell? ⟨w.heap.size + 1, 0, none⟩ = some (.int .i64 0) := (blk_cell X1 0).trans rfl
  have fz0 := blk_frozen X1 0
  have z1 : W.cell? ⟨w.heap.size + 1, 1, none⟩ = some (.int .i64 0) := (blk_cell X1 1).trans rfl
  have fz1 := blk_frozen X1 1
  have z2 : W.cell? ⟨w.heap.size + 1, 2, none⟩ = some (.int .i64 0) := (blk_cell X1 2).trans rfl
  have fz2 := blk_frozen X1 2
  have z3 : W.cell? ⟨w.heap.size + 1, 3, none⟩ = some (.int .i64 0) := (blk_cell X1 3).trans rfl
  have fz3 := blk_frozen X1 3
  have HB := Aside0.mk XB
  clear X0 X1 XB
  refine (lumaR R G B A _ HV.out).mono ?_
  rintro e w' ⟨rfl, hb⟩
  have nb : Aside0 (Below w.heap.size w w') := ⟨step (by with_reducible repeat (first | exact HB.out | refine below_alloc ?_ _ | refine pw_below_drewN ?_ _ | refine below_drew1 ?_ | refine below_set ?_ (by omega))) hb⟩
  clear HB
  have HB := nb
  clear nb
  have cp0 : w'.cell? ⟨w.heap.size, 0, none⟩ = some (.int .i64 R) := kept hb (by first | (with_reducible assumption) | exact kd (by with_reducible assumption))
  have cp1 : w'.cell? ⟨w.heap.size, 1, none⟩ = some (.int .i64 G) := kept hb (by first | (with_reducible assumption) | exact kd (by with_reducible assumption))
  have cp2 : w'.cell? ⟨w.heap.size, 2, none⟩ = some (.int .i64 B) := kept hb (by first | (with_reducible assumption) | exact kd (by with_reducible assumption))
  have cp3 : w'.cell? ⟨w.heap.size, 3, none⟩ = some (.int .i64 A) := kept hb (by first | (with_reducible assumption) | exact kd (by with_reducible assumption))
  have z0 : w'.cell? ⟨w.heap.size + 1, 0, none⟩ = some (.int .i64 0) := kept hb (by first | (with_reducible assumption) | exact kd (by with_reducible assumption))
  have fz0 : w'.frozen? ⟨w.heap.size + 1, 0, none⟩ = false := keptF hb (.int .i64 0) (by first | (with_reducible assumption) | exact kd (by with_reducible assumption)) (by first | (with_reducible assumption) | exact kf (by with_reducible assumption))
  have z1 : w'.cell? ⟨w.heap.size + 1, 1, none⟩ = some (.int .i64 0) := kept hb (by first | (with_reducible assumption) | exact kd (by with_reducible assumption))
  have fz1 : w'.frozen? ⟨w.heap.size + 1, 1, none⟩ = false := keptF hb (.int .i64 0) (by first | (with_reducible assumption) | exact kd (by with_reducible assumption)) (by first | (with_reducible assumption) | exact kf (by with_reducible assumption))
  have z2 : w'.cell? ⟨w.heap.size + 1, 2, none⟩ = some (.int .i64 0) := kept hb (by first | (with_reducible assumption) | exact kd (by with_reducible assumption))
  have fz2 : w'.frozen? ⟨w.heap.size + 1, 2, none⟩ = false := keptF hb (.int .i64 0) (by first | (with_reducible assumption) | exact kd (by with_reducible assumption)) (by first | (with_reducible assumption) | exact kf (by with_reducible assumption))
  have z3 : w'.cell? ⟨w.heap.size + 1, 3, none⟩ = some (.int .i64 0) := kept hb (by first | (with_reducible assumption) | exact kd (by with_reducible assumption))
  have fz3 : w'.frozen? ⟨w.heap.size + 1, 3, none⟩ = false := keptF hb (.int .i64 0) (by first | (with_reducible assumption) | exact kd (by with_reducible assumption)) (by first | (with_reducible assumption) | exact kf (by with_reducible assumption))
  clear hb
  dsimp only
  go_wp2_with fail
  refine (rmapped_any S sc l (lumaV R G B) _ (Kd.C_below HR.out HB.out) hc HG HL.out.2).mono ?_
  rw [HQ.out]
  rintro e w2 ⟨rfl, hb⟩
  have nb : Aside0 (Below w.heap.size w w2) := ⟨step (by with_reducible repeat (first | exact HB.out | refine below_alloc ?_ _ | refine pw_below_drewN ?_ _ | refine below_drew1 ?_ | refine below_set ?_ (by omega))) hb⟩
  clear HB
  have HB := nb
  clear nb
  have cp0 : w2.cell? ⟨w.heap.size, 0, none⟩ = some (.int .i64 R) := kept hb (by first | (with_reducible assumption) | exact kd (by with_reducible assumption))
  have cp1 : w2.cell? ⟨w.heap.size, 1, none⟩ = some (.int .i64 G) := kept hb (by first | (with_reducible assumption) | exact kd (by with_reducible assumption))
  have cp2 : w2.cell? ⟨w.heap.size, 2, none⟩ = some (.int .i64 B) := kept hb (by first | (with_reducible assumption) | exact kd (by with_reducible assumption))
  have cp3 : w2.cell? ⟨w.heap.size, 3, none⟩ = some (.int .i64 A) := kept hb (by first | (with_reducible assumption) | exact kd (by with_reducible assumption))
  have z0 : w2.cell? ⟨w.heap.size + 1, 0, none⟩ = some (.int .i64 0) := kept hb (by first | (with_reducible assumption) | exact kd (by with_reducible assumption))
  have fz0 : w2.frozen? ⟨w.heap.size + 1, 0, none⟩ = false := keptF hb (.int .i64 0) (by first | (with_reducible assumption) | exact kd (by with_reducible assumption)) (by first | (with_reducible assumption) | exact kf (by with_reducible assumption))
  have z1 : w2.cell? ⟨w.heap.size + 1, 1, none⟩ = some (.int .i64 0) := kept hb (by first | (with_reducible assumption) | exact kd (by with_reducible assumption))
  have fz1 : w2.frozen? ⟨w.heap.size + 1, 1, none⟩ = false := keptF hb (.int .i64 0) (by first | (with_reducible assumption) | exact kd (by with_reducible assumption)) (by first | (with_reducible assumption) | exact kf (by with_reducible assumption))
  have z2 : w2.cell? ⟨w.heap.size + 1, 2, none⟩ = some (.int .i64 0) := kept hb (by first | (with_reducible assumption) | exact kd (by with_reducible assumption))
  have fz2 : w2.frozen? ⟨w.heap.size + 1, 2, none⟩ = false := keptF hb (.int .i64 0) (by first | (with_reducible assumption) | exact kd (by with_reducible assumption)) (by first | (with_reducible assumption) | exact kf (by with_reducible assumption))
  have z3 : w2.cell? ⟨w.heap.size + 1, 3, none⟩ = some (.int .i64 0) := kept hb (by first | (with_reducible assumption) | exact kd (by with_reducible assumption))
  have fz3 : w2.frozen? ⟨w.heap.size + 1, 3, none⟩ = false := keptF hb (.int .i64 0) (by first | (with_reducible assumption) | exact kd (by with_reducible assumption)) (by first | (with_reducible assumption) | exact kf (by with_reducible assumption))
  have hA := fun o => kept (below_alloc (Below.refl _ w2) o) cp3
  have hy0 := fun o => kept (below_alloc (Below.refl _ w2) o) z0
  have hg0 := fun o => keptF (below_alloc (Below.refl _ w2) o) _ z0 fz0
  have hy1 := fun o => kept (below_alloc (Below.refl _ w2) o) z1
  have hg1 := fun o => keptF (below_alloc (Below.refl _ w2) o) _ z1 fz1
  have hy2 := fun o => kept (below_alloc (Below.refl _ w2) o) z2
  have hg2 := fun o => keptF (below_alloc (Below.refl _ w2) o) _ z2 fz2
  have hy3 := fun o => kept (below_alloc (Below.refl _ w2) o) z3
  have hg3 := fun o => keptF (below_alloc (Below.refl _ w2) o) _ z3 fz3
  clear hb
  dsimp only
  go_wp2
  generalize hX : ((((w2.alloc (.cells #[.int .i64 v0, .int .i64 v1, .int .i64 v2, .int .i64 v3] 45)).setCell ⟨w.heap.size + 1, 0, none⟩ (.int .i64 v0)).setCell ⟨w.heap.size + 1, 1, none⟩ (.int .i64 v1)).setCell ⟨w.heap.size + 1, 2, none⟩ (.int .i64 v2)).setCell ⟨w.heap.size + 1, 3, none⟩ (.int .i64 A) = X
  obtain ⟨t0, t1, t2, t3⟩ := put4 (hy0 _) (hy1 _) (hy2 _) (hy3 _) hX
  refine bodyPost_ret (v := .agg #[.int .i64 v0, .int .i64 v1, .int .i64 v2, .int .i64 A]) (by simp [results, Try.results57, go_sem, t0, t1, t2, t3]) rfl ⟨rfl, ?_⟩
  rw [← hX]
  repeat (first | exact HB.out | refine below_set ?_ (by omega) | refine below_alloc ?_ _)
set_option maxRecDepth 100000 in
set_option maxHeartbeats 8000000 in
theorem rapp_8 (P : Option Addr) (cap : Nat) (sv : Value) (l : List Int) (R G B A : Int) (w : World) (V : Vld R G B A) (qa : (A == 0) = false) (hp : Ints w P l) (l9 : l.length = 9) (hr : ∀ x : Int, 0 ≤ x → x < 9 → -262140 ≤ rd l x ∧ rd l x ≤ 262140) :
    Calls Try.prog 57 #[.int .i64 8, .slice P 9 cap, sv, .agg #[.int .i64 R, .int .i64 G, .int .i64 B, .int .i64 A]] w fun e w' => e = .returned (.agg #[.int .i64 (mixerV (rd l 0) (rd l 1) (rd l 2) R G B), .int .i64 (mixerV (rd l 3) (rd l 4) (rd l 5) R G B), .int .i64 (mixerV (rd l 6) (rd l 7) (rd l 8) R G B), .int .i64 A]) ∧ Below w.heap.size w w' := by
  obtain ⟨r0, r1, g0, g1, b0, b1, _, _⟩ := V
  have HP := Aside0.mk hp
  have HX := Aside0.mk hr
  have L9 := Aside0.mk l9
  clear hp hr l9
  go_enter Try.func57, Try.ntmps57
  go_wp2_with fail
  generalize hW : (w.alloc (.cells #[.int .i64 R, .int .i64 G, .int .i64 B, .int .i64 A] 45)).alloc (.cells #[.int .i64 0, .int .i64 0, .int .i64 0, .int .i64 0] 45) = W
  obtain ⟨X0, X1, XB⟩ := two _ _ _ _ hW
  clear hW
  have XS : w.heap.size + 2 ≤ W.heap.size := by have := blk_lt X1; omega
  go_loopw [12, 11] (fun a b wr => ∃ (j : Nat) (x : Int) (v : Value), a = .int .i64 x ∧ v = b ∧ x = 3 * j ∧ j ≤ 3 ∧ Aside0 (wr.heap[w.heap.size]? = some (.cells #[.int .i64 R, .int .i64 G, .int .i64 B, .int .i64 A] 45 (0, 0))) ∧ Aside0 (wr.heap[w.heap.size + 1]? = some (.cells #[.int .i64 0, .int .i64 0, .int .i64 0, .int .i64 0] 45 (0, 0))) ∧ Aside0 (Kd.R (Kd.int .i64) 3 wr (w.heap.size + 2) (fun _ => True) v (mixL l R G B j)) ∧ Aside0 (Below w.heap.size w wr) ∧ Aside0 (w.heap.size + 2 ≤ wr.heap.size)) (fun a _ _ => 9 - (intOf a).toNat)
  case atStart => exact ⟨0, 0, _, rfl, rfl, rfl, by omega, ⟨X0⟩, ⟨X1⟩, ⟨Kd.R_nil _ _ _ _ _⟩, ⟨XB⟩, ⟨XS⟩⟩
  case round =>
    clear X0 X1 XB XS
    obtain ⟨j, x, v, rfl, rfl, hx, hj, U0, U1, HO, YB, YS⟩ := hrel
    by_cases hlt : j < 3
    · have b2 : 0 ≤ x := by omega
      have b3 : x < 9 := by omega
      have b4 : 0 ≤ x + 1 := by omega
      have b5 : x + 1 < 9 := by omega
      have b6 : 0 ≤ x + 2 := by omega
      have b7 : x + 2 < 9 := by omega
      obtain ⟨ad, e, x0⟩ := Kd.at_int HP.out x b2 (by have := L9.out; omega)
      obtain ⟨ad', e', x1⟩ := Kd.at_int HP.out (x + 1) b4 (by have := L9.out; omega)
      obtain ⟨ad'', e'', x2⟩ := Kd.at_int HP.out (x + 2) b6 (by have := L9.out; omega)
      rw [e] at e' e''
      obtain rfl : ad = ad' := by injection e'
      obtain rfl : ad = ad'' := by injection e''
      clear e' e''
      subst e
      have k0 := Nat.lt_add_right 2 (World.block_lt_of_cell? w _ x0)
      have k1 := Nat.lt_add_right 2 (World.block_lt_of_cell? w _ x1)
      have k2 := Nat.lt_add_right 2 (World.block_lt_of_cell? w _ x2)
      have k3 : w.heap.size < w.heap.size + 2 := by omega
      replace x0 := kept YB.out x0
      replace x1 := kept YB.out x1
      replace x2 := kept YB.out x2
      obtain ⟨m0, m1⟩ := mixer_small (rd l x) R (HX.out x b2 b3).1 (HX.out x b2 b3).2 r0 r1
      obtain ⟨m2, m3⟩ := mixer_small (rd l (x + 1)) G (HX.out _ b4 b5).1 (HX.out _ b4 b5).2 g0 g1
      obtain ⟨m4, m5⟩ := mixer_small (rd l (x + 2)) B (HX.out _ b6 b7).1 (HX.out _ b6 b7).2 b0 b1
      have e1 := wi (x + 1) (by omega) (by omega)
      have e2 := wi (x + 2) (by omega) (by omega)
      have e3 := wi (x + 3) (by omega) (by omega)
      have e4 := wi (rd l x * R) (by omega) (by omega)
      have e5 := wi (rd l (x + 1) * G) (by omega) (by omega)
      have e6 := wi (rd l (x + 2) * B) (by omega) (by omega)
      have e7 := wi (rd l x * R + rd l (x + 1) * G) (by omega) (by omega)
      have e8 := wi (rd l x * R + rd l (x + 1) * G + rd l (x + 2) * B) (by omega) (by omega)
      have H1 : Aside0 (∀ w, Qt 53 #[.int .i64 (rd l x * R + rd l (x + 1) * G + rd l (x + 2) * B), .int .i64 65535] w (.int .i64 (rdiv (rd l x * R + rd l (x + 1) * G + rd l (x + 2) * B) 65535))) := ⟨fun w => rdivR _ _ w (by omega) (by omega) (by omega) (by omega)⟩
      have H2 : Aside0 (∀ w, Qt 66 #[.int .i64 (rdiv (rd l x * R + rd l (x + 1) * G + rd l (x + 2) * B) 65535)] w (.int .i64 (mixerV (rd l x) (rd l (x + 1)) (rd l (x + 2)) R G B))) := ⟨fun w => rlimQ _ w⟩
      have p0 : wr.cell? ⟨w.heap.size, 0, none⟩ = some (.int .i64 R) := (blk_cell U0.out 0).trans rfl
      have p1 : wr.cell? ⟨w.heap.size, 1, none⟩ = some (.int .i64 G) := (blk_cell U0.out 1).trans rfl
      have p2 : wr.cell? ⟨w.heap.size, 2, none⟩ = some (.int .i64 B) := (blk_cell U0.out 2).trans rfl
      have u5 : (mixL l R G B j).length = j := mixL_len l R G B j
      have QX := Aside0.mk hx
      clear hx m0 m1 m2 m3 m4 m5
      go_wp2
      go_region_held3 (fun w' => w'.cell? (ad.add x.toNat) = some (.int .i64 (rd l x)) ∧ w'.cell? (ad.add (x + 1).toNat) = some (.int .i64 (rd l (x + 1))) ∧ w'.cell? (ad.add (x + 2).toNat) = some (.int .i64 (rd l (x + 2))) ∧ w'.cell? ⟨w.heap.size, 0, none⟩ = some (.int .i64 R) ∧ w'.cell? ⟨w.heap.size, 1, none⟩ = some (.int .i64 G) ∧ w'.cell? ⟨w.heap.size, 2, none⟩ = some (.int .i64 B))
        (with_reducible (first | exact ⟨(ZB.out.cell k0).trans x0, (ZB.out.cell k1).trans x1, (ZB.out.cell k2).trans x2, (ZB.out.cell k3).trans p0, (ZB.out.cell k3).trans p1, (ZB.out.cell k3).trans p2⟩ | (refine ⟨?_, ?_, ?_, ?_, ?_, ?_⟩ <;> first | assumption | (simp only [World.cell?_drew, World.cell?_drewN]; assumption) | (refine kept (below_alloc (Below.refl _ _) _) ?_; first | assumption | (simp only [World.cell?_drewN]; assumption)))))
        ((first | (refine Kd.R_append_step (Kd.int .i64) (w0 := wr) (W := _) (w.heap.size + 2) (by rfl) (.tmp 87) (.tmp 115) 32 3 (.int .i64 0) 8 (by rfl) Try.underlying32 info3' rfl (by decide) (by omega) v (mixL l R G B j) (mixerV (rd l x) (rd l (x + 1)) (rd l (x + 2)) R G B) [.int .i64 (mixerV (rd l x) (rd l (x + 1)) (rd l (x + 2)) R G B)] (fun _ => True) (fun _ => False) (by rfl) (by rfl) ?aP (fun _ hk => hk.elim) ?aF ?aO ?aB ?aS ?aL ?_; (case aP => exact rfl); (case aF => exact fun _ _ => trivial); (case aO => exact (by (with_reducible repeat (first | apply Kd.R_alloc | apply Kd.R_drewN | apply Kd.R_drew)); exact HO.out)); (case aB => exact (by with_reducible repeat (first | exact Below.refl _ _ | refine pw_below_drewN ?_ _ | refine below_drew1 ?_))); (case aS => exact (by have := YS.out; simpa using this)); (case aL => omega); intro v1 w1 ho hb hg hat; have ZO := Aside0.mk ho; have ZB := Aside0.mk hb; clear ho hb hg hat) | (go_at_call 53; refine (H1.out _).mono ?_; rintro e w' ⟨rfl, mm, rfl⟩) | (go_at_call 66; refine (H2.out _).mono ?_; rintro e w' ⟨rfl, mm, rfl⟩)))
      all_goals
        have ZE : Aside0 (mixL l R G B j ++ [mixerV (rd l x) (rd l (x + 1)) (rd l (x + 2)) R G B] = mixL l R G B (j + 1)) := ⟨by rw [QX.out]; rfl⟩
        go_wp2
        go_roundw
        case rel =>
          refine ⟨j + 1, x + 3, _, rfl, rfl, by have := QX.out; omega, by omega, ⟨(ZB.out.block _ (by omega)).trans U0.out⟩, ⟨(ZB.out.block _ (by omega)).trans U1.out⟩, ⟨?_⟩, ⟨YB.out.trans (ZB.out.mono (by omega))⟩, ⟨by have := YS.out; have := ZB.out.size; omega⟩⟩
          rw [← ZE.out]
          exact ZO.out
        case measure => have := QX.out; simp [intOf]; omega
    · obtain rfl : j = 3 := by omega
      obtain rfl : x = 9 := by omega
      obtain ⟨A1, k1, rfl, hk1, hC⟩ := Kd.R_reads HO.out
      obtain ⟨bd, rfl, y0⟩ := Kd.at_int hC 0 (by decide) (by rw [mixL_len]; decide)
      obtain ⟨bd', e', y1⟩ := Kd.at_int hC 1 (by decide) (by rw [mixL_len]; decide)
      obtain ⟨bd'', e'', y2⟩ := Kd.at_int hC 2 (by decide) (by rw [mixL_len]; decide)
      obtain rfl : bd = bd' := by injection e'
      obtain rfl : bd = bd'' := by injection e''
      have hbd : w.heap.size + 2 ≤ bd.block := ((Kd.R_bound HO.out).1 bd.block (by simp [Value.ownBlock])).2.1
      clear e' e'' hC hk1 hlt hx hj HO
      replace y0 : wr.cell? bd = some (.int .i64 (mixerV (rd l 0) (rd l 1) (rd l 2) R G B)) := y0
      replace y1 : wr.cell? ⟨bd.block, bd.off + 1, none⟩ = some (.int .i64 (mixerV (rd l 3) (rd l 4) (rd l 5) R G B)) := y1
      replace y2 : wr.cell? ⟨bd.block, bd.off + 2, none⟩ = some (.int .i64 (mixerV (rd l 6) (rd l 7) (rd l 8) R G B)) := y2
      have p3 : wr.cell? ⟨w.heap.size, 3, none⟩ = some (.int .i64 A) := (blk_cell U0.out 3).trans rfl
      have z0 : wr.cell? ⟨w.heap.size + 1, 0, none⟩ = some (.int .i64 0) := (blk_cell U1.out 0).trans rfl
      have fz0 := blk_frozen U1.out 0
      have z1 : wr.cell? ⟨w.heap.size + 1, 1, none⟩ = some (.int .i64 0) := (blk_cell U1.out 1).trans rfl
      have fz1 := blk_frozen U1.out 1
      have z2 : wr.cell? ⟨w.heap.size + 1, 2, none⟩ = some (.int .i64 0) := (blk_cell U1.out 2).trans rfl
      have fz2 := blk_frozen U1.out 2
      have z3 : wr.cell? ⟨w.heap.size + 1, 3, none⟩ = some (.int .i64 0) := (blk_cell U1.out 3).trans rfl
      have fz3 := blk_frozen U1.out 3
      have HB := YB
      clear U0 U1 YB
      rw [mixL_len]
      go_wp2
      go_region_held3 (fun w' => w'.cell? bd = some (.int .i64 (mixerV (rd l 0) (rd l 1) (rd l 2) R G B)) ∧ w'.cell? ⟨bd.block, bd.off + 1, none⟩ = some (.int .i64 (mixerV (rd l 3) (rd l 4) (rd l 5) R G B)) ∧ w'.cell? ⟨bd.block, bd.off + 2, none⟩ = some (.int .i64 (mixerV (rd l 6) (rd l 7) (rd l 8) R G B)) ∧ w'.cell? ⟨w.heap.size, 3, none⟩ = some (.int .i64 A))
        (with_reducible (first | exact ⟨kept hb (by assumption), kept hb (by assumption), kept hb (by assumption), kept hb (by assumption)⟩ | (go_split_ands; exact ⟨kept hb (by assumption), kept hb (by assumption), kept hb (by assumption), kept hb (by assumption)⟩) | (refine ⟨?_, ?_, ?_, ?_⟩ <;> (simp only [World.cell?_drew]; first | assumption | (refine far4 (by first | omega | (dsimp only; omega)) ?_; assumption)))))
        ((fail))
      go_wp2
      refine bodyPost_ret (v := .agg #[.int .i64 (mixerV (rd l 0) (rd l 1) (rd l 2) R G B), .int .i64 (mixerV (rd l 3) (rd l 4) (rd l 5) R G B), .int .i64 (mixerV (rd l 6) (rd l 7) (rd l 8) R G B), .int .i64 A]) (by simp [results, Try.results57, go_sem, z0, z1, z2, z3]) rfl ⟨rfl, ?_⟩
      repeat (first | exact HB.out | refine below_set ?_ (by omega) | refine pw_below_drewN ?_ _ | refine below_drew1 ?_)
set_option maxRecDepth 100000 in
set_option maxHeartbeats 8000000 in
theorem rapp_5p (ad : Addr) (cap : Nat) (sv : Value) (p0 p1 p2 d : Int) (R G B A : Int) (w : World) (V : Vld R G B A) (qa : (A == 0) = false) (hp0 : w.cell? ad = some (.int .i64 p0)) (hp1 : w.cell? ⟨ad.block, ad.off + 1, none⟩ = some (.int .i64 p1)) (hp2 : w.cell? ⟨ad.block, ad.off + 2, none⟩ = some (.int .i64 p2)) (a0 : -32768 ≤ p0) (a1 : p0 ≤ 32768) (b0 : -65535 ≤ p1) (b1 : p1 ≤ 65535) (M : Int) (HM : Aside0 (∀ w, Calls Try.prog 89 #[.int .i64 (65535 - ligV R G B), .int .i64 p2] w fun e w' => e = .returned (.int .i64 M) ∧ Below w.heap.size w w')) (m0 : 0 ≤ M) (m1 : M ≤ 65535) (hs : decide (p2 < 0) = false) (hd : d = ligV R G B + M) :
    Calls Try.prog 57 #[.int .i64 5, .slice (some ad) 3 cap, sv, .agg #[.int .i64 R, .int .i64 G, .int .i64 B, .int .i64 A]] w fun e w' => e = .returned (fromPix (hueV R G B + p0) (satT (satV R G B) p1) d A) ∧ Below w.heap.size w w' := by
  have e9 : lim R = R ∧ lim G = G ∧ lim B = B ∧ lim A = A := by obtain ⟨r0, r1, g0, g1, b0, b1, a0, a1⟩ := V; exact ⟨lim_id r0 r1, lim_id g0 g1, lim_id b0 b1, lim_id a0 a1⟩
  have HH : Aside0 (∀ w, Calls Try.prog 41 #[.agg #[.int .i64 R, .int .i64 G, .int .i64 B, .int .i64 A]] w fun e w' => e = .returned (.agg #[.int .i64 (hueV R G B), .int .i64 (satV R G B), .int .i64 (ligV R G B)]) ∧ Below w.heap.size w w') := ⟨fun w => rHsl_any R G B A R G B A w V e9.1 e9.2.1 e9.2.2.1 e9.2.2.2⟩
  obtain ⟨h0, h1, s0, s1, l0, l1⟩ := hsl_range R G B A V
  clear e9 V
  generalize hueV R G B = h at *
  generalize satV R G B = s at *
  generalize ligV R G B = l at *
  have e1 := wi (65535 - l) (by omega) (by omega)
  have e2 := wi (l + M) (by omega) (by omega)
  have e3 := wi (h + p0) (by omega) (by omega)
  have e4 := wi (65535 + p1) (by omega) (by omega)
  obtain ⟨t0, t1⟩ := sat_small s (65535 + p1) s0 s1 (by omega) (by omega)
  have e5 := wi (s * (65535 + p1)) (by omega) (by omega)
  have HD : Aside0 (∀ w, Qt 53 #[.int .i64 (s * (65535 + p1)), .int .i64 65535] w (.int .i64 (rdiv (s * (65535 + p1)) 65535))) := ⟨fun w => rdivR _ _ w (by omega) (by omega) (by omega) (by omega)⟩
  have HL : Aside0 (∀ w, Qt 66 #[.int .i64 (rdiv (s * (65535 + p1)) 65535)] w (.int .i64 (satT s p1))) := ⟨fun w => rlimQ _ w⟩
  subst hd
  obtain ⟨x0, x1, x2, x3, hx⟩ := fromPix_agg (h + p0) (satT s p1) (l + M) A
  have HF : Aside0 (∀ w, Calls Try.prog 43 #[.agg #[.int .i64 (h + p0), .int .i64 (satT s p1), .int .i64 (l + M)], .int .i64 A] w fun e w' => e = .returned (.agg #[.int .i64 x0, .int .i64 x1, .int .i64 x2, .int .i64 x3]) ∧ Below w.heap.size w w') := ⟨fun w => by rw [← hx]; exact rFrom_any _ _ _ _ w⟩
  rw [hx]
  have P0 := Aside0.mk hp0
  have P1 := Aside0.mk hp1
  have P2 := Aside0.mk hp2
  clear hp0 hp1 hp2 hx t0 t1 h0 h1 s0 s1 l0 l1 a0 a1 b0 b1 m0 m1
  go_enter Try.func57, Try.ntmps57
  go_wp2_with fail
  generalize hW : (w.alloc (.cells #[.int .i64 R, .int .i64 G, .int .i64 B, .int .i64 A] 45)).alloc (.cells #[.int .i64 0, .int .i64 0, .int .i64 0, .int .i64 0] 45) = W
  obtain ⟨X0, X1, XB⟩ := two _ _ _ _ hW
  clear hW
  have cp0 : W.cell? ⟨w.heap.size, 0, none⟩ = some (.int .i64 R) := (blk_cell X0 0).trans rfl
  have cp1 : W.cell? ⟨w.heap.size, 1, none⟩ = some (.int .i64 G) := (blk_cell X0 1).trans rfl
  have cp2 : W.cell? ⟨w.heap.size, 2, none⟩ = some (.int .i64 B) := (blk_cell X0 2).trans rfl
  have cp3 : W.cell? ⟨w.heap.size, 3, none⟩ = some (.int .i64 A) := (blk_cell X0 3).trans rfl
  have z0 : W.cell? ⟨w.heap.size + 1, 0, none⟩ = some (.int .i64 0) := (blk_cell X1 0).trans rfl
  have fz0 := blk_frozen X1 0
  have z1 : W.cell? ⟨w.heap.size + 1, 1, none⟩ = some (.int .i64 0) := (blk_cell X1 1).trans rfl
  have fz1 := blk_frozen X1 1
  have z2 : W.cell? ⟨w.heap.size + 1, 2, none⟩ = some (.int .i64 0) := (blk_cell X1 2).trans rfl
  have fz2 := blk_frozen X1 2
  have z3 : W.cell? ⟨w.heap.size + 1, 3, none⟩ = some (.int .i64 0) := (blk_cell X1 3).trans rfl
  have fz3 := blk_frozen X1 3
  have HB := Aside0.mk XB
  clear X0 X1 XB
  refine (HH.out _).mono ?_
  rintro e w2 ⟨rfl, hb⟩
  have nb : Aside0 (Below w.heap.size w w2) := ⟨step (by with_reducible repeat (first | exact HB.out | refine below_alloc ?_ _ | refine pw_below_drewN ?_ _ | refine below_drew1 ?_ | refine below_set ?_ (by omega))) hb⟩
  clear HB
  have HB := nb
  clear nb
  have cp0 : w2.cell? ⟨w.heap.size, 0, none⟩ = some (.int .i64 R) := kept hb (by first | (with_reducible assumption) | exact kd (by with_reducible assumption))
  have cp1 : w2.cell? ⟨w.heap.size, 1, none⟩ = some (.int .i64 G) := kept hb (by first | (with_reducible assumption) | exact kd (by with_reducible assumption))
  have cp2 : w2.cell? ⟨w.heap.size, 2, none⟩ = some (.int .i64 B) := kept hb (by first | (with_reducible assumption) | exact kd (by with_reducible assumption))
  have cp3 : w2.cell? ⟨w.heap.size, 3, none⟩ = some (.int .i64 A) := kept hb (by first | (with_reducible assumption) | exact kd (by with_reducible assumption))
  have z0 : w2.cell? ⟨w.heap.size + 1, 0, none⟩ = some (.int .i64 0) := kept hb (by first | (with_reducible assumption) | exact kd (by with_reducible assumption))
  have fz0 : w2.frozen? ⟨w.heap.size + 1, 0, none⟩ = false := keptF hb (.int .i64 0) (by first | (with_reducible assumption) | exact kd (by with_reducible assumption)) (by first | (with_reducible assumption) | exact kf (by with_reducible assumption))
  have z1 : w2.cell? ⟨w.heap.size + 1, 1, none⟩ = some (.int .i64 0) := kept hb (by first | (with_reducible assumption) | exact kd (by with_reducible assumption))
  have fz1 : w2.frozen? ⟨w.heap.size + 1, 1, none⟩ = false := keptF hb (.int .i64 0) (by first | (with_reducible assumption) | exact kd (by with_reducible assumption)) (by first | (with_reducible assumption) | exact kf (by with_reducible assumption))
  have z2 : w2.cell? ⟨w.heap.size + 1, 2, none⟩ = some (.int .i64 0) := kept hb (by first | (with_reducible assumption) | exact kd (by with_reducible assumption))
  have fz2 : w2.frozen? ⟨w.heap.size + 1, 2, none⟩ = false := keptF hb (.int .i64 0) (by first | (with_reducible assumption) | exact kd (by with_reducible assumption)) (by first | (with_reducible assumption) | exact kf (by with_reducible assumption))
  have z3 : w2.cell? ⟨w.heap.size + 1, 3, none⟩ = some (.int .i64 0) := kept hb (by first | (with_reducible assumption) | exact kd (by with_reducible assumption))
  have fz3 : w2.frozen? ⟨w.heap.size + 1, 3, none⟩ = false := keptF hb (.int .i64 0) (by first | (with_reducible assumption) | exact kd (by with_reducible assumption)) (by first | (with_reducible assumption) | exact kf (by with_reducible assumption))
  clear hb
  have q0 : w2.cell? ad = some (.int .i64 p0) := kept HB.out P0.out
  have q1 : w2.cell? ⟨ad.block, ad.off + 1, none⟩ = some (.int .i64 p1) := kept HB.out P1.out
  have q2 : w2.cell? ⟨ad.block, ad.off + 2, none⟩ = some (.int .i64 p2) := kept HB.out P2.out
  dsimp only
  go_wp2
  have hq0 : w2.alloc (.cells #[.int .i64 h, .int .i64 s, .int .i64 l] 51) = w2.alloc (.cells #[.int .i64 h, .int .i64 s, .int .i64 l] 51) := rfl
  have HX := blk_new w2 (.cells #[.int .i64 h, .int .i64 s, .int .i64 l] 51)
  have hb := below_alloc (Below.refl w2.heap.size w2) (.cells #[.int .i64 h, .int .i64 s, .int .i64 l] 51)
  have GL : w.heap.size + 1 < w2.heap.size := World.block_lt_of_cell? w2 _ z0
  have hlt := World.block_lt_of_cell? w _ P0.out
  clear hq0
  generalize w2.alloc (.cells #[.int .i64 h, .int .i64 s, .int .i64 l] 51) = w3 at *
  have nb : Aside0 (Below w.heap.size w w3) := ⟨step HB.out hb⟩
  clear HB
  have HB := nb
  clear nb
  have h0 : w3.cell? ⟨w2.heap.size, 0, none⟩ = some (.int .i64 h) := (blk_cell HX 0).trans rfl
  have h1 : w3.cell? ⟨w2.heap.size, 1, none⟩ = some (.int .i64 s) := (blk_cell HX 1).trans rfl
  have h2 : w3.cell? ⟨w2.heap.size, 2, none⟩ = some (.int .i64 l) := (blk_cell HX 2).trans rfl
  have cp3 : w3.cell? ⟨w.heap.size, 3, none⟩ = some (.int .i64 A) := kept hb cp3
  have z0 : w3.cell? ⟨w.heap.size + 1, 0, none⟩ = some (.int .i64 0) := kept hb (by first | (with_reducible assumption) | exact kd (by with_reducible assumption))
  have fz0 : w3.frozen? ⟨w.heap.size + 1, 0, none⟩ = false := keptF hb (.int .i64 0) (by first | (with_reducible assumption) | exact kd (by with_reducible assumption)) (by first | (with_reducible assumption) | exact kf (by with_reducible assumption))
  have z1 : w3.cell? ⟨w.heap.size + 1, 1, none⟩ = some (.int .i64 0) := kept hb (by first | (with_reducible assumption) | exact kd (by with_reducible assumption))
  have fz1 : w3.frozen? ⟨w.heap.size + 1, 1, none⟩ = false := keptF hb (.int .i64 0) (by first | (with_reducible assumption) | exact kd (by with_reducible assumption)) (by first | (with_reducible assumption) | exact kf (by with_reducible assumption))
  have z2 : w3.cell? ⟨w.heap.size + 1, 2, none⟩ = some (.int .i64 0) := kept hb (by first | (with_reducible assumption) | exact kd (by with_reducible assumption))
  have fz2 : w3.frozen? ⟨w.heap.size + 1, 2, none⟩ = false := keptF hb (.int .i64 0) (by first | (with_reducible assumption) | exact kd (by with_reducible assumption)) (by first | (with_reducible assumption) | exact kf (by with_reducible assumption))
  have z3 : w3.cell? ⟨w.heap.size + 1, 3, none⟩ = some (.int .i64 0) := kept hb (by first | (with_reducible assumption) | exact kd (by with_reducible assumption))
  have fz3 : w3.frozen? ⟨w.heap.size + 1, 3, none⟩ = false := keptF hb (.int .i64 0) (by first | (with_reducible assumption) | exact kd (by with_reducible assumption)) (by first | (with_reducible assumption) | exact kf (by with_reducible assumption))
  have q0 : w3.cell? ad = some (.int .i64 p0) := kept hb q0
  have q1 : w3.cell? ⟨ad.block, ad.off + 1, none⟩ = some (.int .i64 p1) := kept hb q1
  have q2 : w3.cell? ⟨ad.block, ad.off + 2, none⟩ = some (.int .i64 p2) := kept hb q2
  generalize w2.heap.size = g at *
  clear hb HX
  go_region_held3 (fun w' => w'.cell? ⟨g, 0, none⟩ = some (.int .i64 h) ∧ w'.cell? ⟨g, 1, none⟩ = some (.int .i64 s) ∧ w'.cell? ⟨g, 2, none⟩ = some (.int .i64 l) ∧ w'.cell? ad = some (.int .i64 p0) ∧ w'.cell? ⟨ad.block, ad.off + 1, none⟩ = some (.int .i64 p1) ∧ w'.cell? ⟨ad.block, ad.off + 2, none⟩ = some (.int .i64 p2) ∧ w'.cell? ⟨w.heap.size, 3, none⟩ = some (.int .i64 A))
    (with_reducible (first | exact ⟨kept hb (by assumption), kept hb (by assumption), kept hb (by assumption), kept hb (by assumption), kept hb (by assumption), kept hb (by assumption), kept hb (by assumption)⟩ | (go_split_ands; exact ⟨kept hb (by assumption), kept hb (by assumption), kept hb (by assumption), kept hb (by assumption), kept hb (by assumption), kept hb (by assumption), kept hb (by assumption)⟩) | (refine ⟨?_, ?_, ?_, ?_, ?_, ?_, ?_⟩ <;> first | (simp only [World.cell?_drew]; assumption) | (refine far4 (by first | omega | (dsimp only; omega)) ?_; assumption))))
    ((go_at_call 89; refine (HM.out _).mono ?_; rintro e w' ⟨rfl, hb⟩; have nb : Aside0 (Below w.heap.size w w') := ⟨step (by with_reducible repeat (first | exact HB.out | refine below_alloc ?_ _ | refine pw_below_drewN ?_ _ | refine below_drew1 ?_ | refine below_set ?_ (by omega))) hb⟩; clear HB; have HB := nb; clear nb; have cp3 : w'.cell? ⟨w.heap.size, 3, none⟩ = some (.int .i64 A) := kept hb (by first | (with_reducible assumption) | exact kd (by with_reducible assumption)); have z0 : w'.cell? ⟨w.heap.size + 1, 0, none⟩ = some (.int .i64 0) := kept hb (by first | (with_reducible assumption) | exact kd (by with_reducible assumption)); have fz0 : w'.frozen? ⟨w.heap.size + 1, 0, none⟩ = false := keptF hb (.int .i64 0) (by first | (with_reducible assumption) | exact kd (by with_reducible assumption)) (by first | (with_reducible assumption) | exact kf (by with_reducible assumption)); have z1 : w'.cell? ⟨w.heap.size + 1, 1, none⟩ = some (.int .i64 0) := kept hb (by first | (with_reducible assumption) | exact kd (by with_reducible assumption)); have fz1 : w'.frozen? ⟨w.heap.size + 1, 1, none⟩ = false := keptF hb (.int .i64 0) (by first | (with_reducible assumption) | exact kd (by with_reducible assumption)) (by first | (with_reducible assumption) | exact kf (by with_reducible assumption)); have z2 : w'.cell? ⟨w.heap.size + 1, 2, none⟩ = some (.int .i64 0) := kept hb (by first | (with_reducible assumption) | exact kd (by with_reducible assumption)); have fz2 : w'.frozen? ⟨w.heap.size + 1, 2, none⟩ = false := keptF hb (.int .i64 0) (by first | (with_reducible assumption) | exact kd (by with_reducible assumption)) (by first | (with_reducible assumption) | exact kf (by with_reducible assumption)); have z3 : w'.cell? ⟨w.heap.size + 1, 3, none⟩ = some (.int .i64 0) := kept hb (by first | (with_reducible assumption) | exact kd (by with_reducible assumption)); have fz3 : w'.frozen? ⟨w.heap.size + 1, 3, none⟩ = false := keptF hb (.int .i64 0) (by first | (with_reducible assumption) | exact kd (by with_reducible assumption)) (by first | (with_reducible assumption) | exact kf (by with_reducible assumption)); have h0 : w'.cell? ⟨g, 0, none⟩ = some (.int .i64 h) := kept hb (by first | (with_reducible assumption) | exact kd (by with_reducible assumption)); have h1 : w'.cell? ⟨g, 1, none⟩ = some (.int .i64 s) := kept hb (by first | (with_reducible assumption) | exact kd (by with_reducible assumption)); have h2 : w'.cell? ⟨g, 2, none⟩ = some (.int .i64 l) := kept hb (by first | (with_reducible assumption) | exact kd (by with_reducible assumption)); have q0 : w'.cell? ad = some (.int .i64 p0) := kept hb (by first | (with_reducible assumption) | exact kd (by with_reducible assumption)); have q1 : w'.cell? ⟨ad.block, ad.off + 1, none⟩ = some (.int .i64 p1) := kept hb (by first | (with_reducible assumption) | exact kd (by with_reducible assumption)); have q2 : w'.cell? ⟨ad.block, ad.off + 2, none⟩ = some (.int .i64 p2) := kept hb (by first | (with_reducible assumption) | exact kd (by with_reducible assumption))))
  go_wp2
  go_region_held3 (fun w' => w'.cell? ⟨g, 0, none⟩ = some (.int .i64 h) ∧ w'.cell? ⟨g, 1, none⟩ = some (.int .i64 s) ∧ w'.cell? ⟨g, 2, none⟩ = some (.int .i64 l) ∧ w'.cell? ad = some (.int .i64 p0) ∧ w'.cell? ⟨ad.block, ad.off + 1, none⟩ = some (.int .i64 p1) ∧ w'.cell? ⟨ad.block, ad.off + 2, none⟩ = some (.int .i64 p2) ∧ w'.cell? ⟨w.heap.size, 3, none⟩ = some (.int .i64 A))
    (with_reducible (first | exact ⟨kept hb (by assumption), kept hb (by assumption), kept hb (by assumption), kept hb (by assumption), kept hb (by assumption), kept hb (by assumption), kept hb (by assumption)⟩ | (go_split_ands; exact ⟨kept hb (by assumption), kept hb (by assumption), kept hb (by assumption), kept hb (by assumption), kept hb (by assumption), kept hb (by assumption), kept hb (by assumption)⟩) | (refine ⟨?_, ?_, ?_, ?_, ?_, ?_, ?_⟩ <;> first | (simp only [World.cell?_drew]; assumption) | (refine far4 (by first | omega | (dsimp only; omega)) ?_; assumption))))
    (((first | (go_at_call 53; refine (Qt.below (HD.out _)).mono ?_) | (go_at_call 66; refine (Qt.below (HL.out _)).mono ?_) | (go_at_call 43; refine (HF.out _).mono ?_)); rintro e w' ⟨rfl, hb⟩; have nb : Aside0 (Below w.heap.size w w') := ⟨step (by with_reducible repeat (first | exact HB.out | refine below_alloc ?_ _ | refine pw_below_drewN ?_ _ | refine below_drew1 ?_ | refine below_set ?_ (by omega))) hb⟩; clear HB; have HB := nb; clear nb; have cp3 : w'.cell? ⟨w.heap.size, 3, none⟩ = some (.int .i64 A) := kept hb (by first | (with_reducible assumption) | exact kd (by with_reducible assumption)); have z0 : w'.cell? ⟨w.heap.size + 1, 0, none⟩ = some (.int .i64 0) := kept hb (by first | (with_reducible assumption) | exact kd (by with_reducible assumption)); have fz0 : w'.frozen? ⟨w.heap.size + 1, 0, none⟩ = false := keptF hb (.int .i64 0) (by first | (with_reducible assumption) | exact kd (by with_reducible assumption)) (by first | (with_reducible assumption) | exact kf (by with_reducible assumption)); have z1 : w'.cell? ⟨w.heap.size + 1, 1, none⟩ = some (.int .i64 0) := kept hb (by first | (with_reducible assumption) | exact kd (by with_reducible assumption)); have fz1 : w'.frozen? ⟨w.heap.size + 1, 1, none⟩ = false := keptF hb (.int .i64 0) (by first | (with_reducible assumption) | exact kd (by with_reducible assumption)) (by first | (with_reducible assumption) | exact kf (by with_reducible assumption)); have z2 : w'.cell? ⟨w.heap.size + 1, 2, none⟩ = some (.int .i64 0) := kept hb (by first | (with_reducible assumption) | exact kd (by with_reducible assumption)); have fz2 : w'.frozen? ⟨w.heap.size + 1, 2, none⟩ = false := keptF hb (.int .i64 0) (by first | (with_reducible assumption) | exact kd (by with_reducible assumption)) (by first | (with_reducible assumption) | exact kf (by with_reducible assumption)); have z3 : w'.cell? ⟨w.heap.size + 1, 3, none⟩ = some (.int .i64 0) := kept hb (by first | (with_reducible assumption) | exact kd (by with_reducible assumption)); have fz3 : w'.frozen? ⟨w.heap.size + 1, 3, none⟩ = false := keptF hb (.int .i64 0) (by first | (with_reducible assumption) | exact kd (by with_reducible assumption)) (by first | (with_reducible assumption) | exact kf (by with_reducible assumption)); have h0 : w'.cell? ⟨g, 0, none⟩ = some (.int .i64 h) := kept hb (by first | (with_reducible assumption) | exact kd (by with_reducible assumption)); have h1 : w'.cell? ⟨g, 1, none⟩ = some (.int .i64 s) := kept hb (by first | (with_reducible assumption) | exact kd (by with_reducible assumption)); have h2 : w'.cell? ⟨g, 2, none⟩ = some (.int .i64 l) := kept hb (by first | (with_reducible assumption) | exact kd (by with_reducible assumption)); have q0 : w'.cell? ad = some (.int .i64 p0) := kept hb (by first | (with_reducible assumption) | exact kd (by with_reducible assumption)); have q1 : w'.cell? ⟨ad.block, ad.off + 1, none⟩ = some (.int .i64 p1) := kept hb (by first | (with_reducible assumption) | exact kd (by with_reducible assumption)); have q2 : w'.cell? ⟨ad.block, ad.off + 2, none⟩ = some (.int .i64 p2) := kept hb (by first | (with_reducible assumption) | exact kd (by with_reducible assumption))))
  go_wp2
  refine bodyPost_ret (v := .agg #[.int .i64 x0, .int .i64 x1, .int .i64 x2, .int .i64 x3]) (by simp [results, Try.results57, go_sem, z0, z1, z2, z3]) rfl ⟨rfl, ?_⟩
  repeat (first | exact HB.out | refine below_set ?_ (by omega) | refine pw_below_drewN ?_ _ | refine below_drew1 ?_)
set_option maxRecDepth 100000 in
set_option maxHeartbeats 8000000 in
theorem rapp_5n (ad : Addr) (cap : Nat) (sv : Value) (p0 p1 p2 d : Int) (R G B A : Int) (w : World) (V : Vld R G B A) (qa : (A == 0) = false) (hp0 : w.cell? ad = some (.int .i64 p0)) (hp1 : w.cell? ⟨ad.block, ad.off + 1, none⟩ = some (.int .i64 p1)) (hp2 : w.cell? ⟨ad.block, ad.off + 2, none⟩ = some (.int .i64 p2)) (a0 : -32768 ≤ p0) (a1 : p0 ≤ 32768) (b0 : -65535 ≤ p1) (b1 : p1 ≤ 65535) (d0 : -65535 ≤ p2) (d1 : p2 ≤ 65535) (M K : Int) (HM : Aside0 (∀ w, Calls Try.prog 89 #[.int .i64 (65535 - ligV R G B), .int .i64 p2] w fun e w' => e = .returned (.int .i64 M) ∧ Below w.heap.size w w')) (m0 : 0 ≤ M) (m1 : M ≤ 65535) (HK : Aside0 (∀ w, Calls Try.prog 89 #[.int .i64 (ligV R G B), .int .i64 (-p2)] w fun e w' => e = .returned (.int .i64 K) ∧ Below w.heap.size w w')) (k0 : 0 ≤ K) (k1 : K ≤ 65535) (hs : decide (p2 < 0) = true) (hd : d = ligV R G B - K) :
    Calls Try.prog 57 #[.int .i64 5, .slice (some ad) 3 cap, sv, .agg #[.int .i64 R, .int .i64 G, .int .i64 B, .int .i64 A]] w fun e w' => e = .returned (fromPix (hueV R G B + p0) (satT (satV R G B) p1) d A) ∧ Below w.heap.size w w' := by
  have e9 : lim R = R ∧ lim G = G ∧ lim B = B ∧ lim A = A := by obtain ⟨r0, r1, g0, g1, b0, b1, a0, a1⟩ := V; exact ⟨lim_id r0 r1, lim_id g0 g1, lim_id b0 b1, lim_id a0 a1⟩
  have HH : Aside0 (∀ w, Calls Try.prog 41 #[.agg #[.int .i64 R, .int .i64 G, .int .i64 B, .int .i64 A]] w fun e w' => e = .returned (.agg #[.int .i64 (hueV R G B), .int .i64 (satV R G B), .int .i64 (ligV R G B)]) ∧ Below w.heap.size w w') := ⟨fun w => rHsl_any R G B A R G B A w V e9.1 e9.2.1 e9.2.2.1 e9.2.2.2⟩
  obtain ⟨h0, h1, s0, s1, l0, l1⟩ := hsl_range R G B A V
  clear e9 V
  generalize hueV R G B = h at *
  generalize satV R G B = s at *
  generalize ligV R G B = l at *
  have e1 := wi (65535 - l) (by omega) (by omega)
  have e2 := wi (l + M) (by omega) (by omega)
  have e6 := wi (-p2) (by omega) (by omega)
  have e7 := wi (l - K) (by omega) (by omega)
  have e3 := wi (h + p0) (by omega) (by omega)
  have e4 := wi (65535 + p1) (by omega) (by omega)
  obtain ⟨t0, t1⟩ := sat_small s (65535 + p1) s0 s1 (by omega) (by omega)
  have e5 := wi (s * (65535 + p1)) (by omega) (by omega)
  have HD : Aside0 (∀ w, Qt 53 #[.int .i64 (s * (65535 + p1)), .int .i64 65535] w (.int .i64 (rdiv (s * (65535 + p1)) 65535))) := ⟨fun w => rdivR _ _ w (by omega) (by omega) (by omega) (by omega)⟩
  have HL : Aside0 (∀ w, Qt 66 #[.int .i64 (rdiv (s * (65535 + p1)) 65535)] w (.int .i64 (satT s p1))) := ⟨fun w => rlimQ _ w⟩
  subst hd
  obtain ⟨x0, x1, x2, x3, hx⟩ := fromPix_agg (h + p0) (satT s p1) (l - K) A
  have HF : Aside0 (∀ w, Calls Try.prog 43 #[.agg #[.int .i64 (h + p0), .int .i64 (satT s p1), .int .i64 (l - K)], .int .i64 A] w fun e w' => e = .returned (.agg #[.int .i64 x0, .int .i64 x1, .int .i64 x2, .int .i64 x3]) ∧ Below w.heap.size w w') := ⟨fun w => by rw [← hx]; exact rFrom_any _ _ _ _ w⟩
  rw [hx]
  have P0 := Aside0.mk hp0
  have P1 := Aside0.mk hp1
  have P2 := Aside0.mk hp2
  clear hp0 hp1 hp2 hx t0 t1 h0 h1 s0 s1 l0 l1 a0 a1 b0 b1 m0 m1 d0 d1 k0 k1
  go_enter Try.func57, Try.ntmps57
  go_wp2_with fail
  generalize hW : (w.alloc (.cells #[.int .i64 R, .int .i64 G, .int .i64 B, .int .i64 A] 45)).alloc (.cells #[.int .i64 0, .int .i64 0, .int .i64 0, .int .i64 0] 45) = W
  obtain ⟨X0, X1, XB⟩ := two _ _ _ _ hW
  clear hW
  have cp0 : W.cell? ⟨w.heap.size, 0, none⟩ = some (.int .i64 R) := (blk_cell X0 0).trans rfl
  have cp1 : W.cell? ⟨w.heap.size, 1, none⟩ = some (.int .i64 G) := (blk_cell X0 1).trans rfl
  have cp2 : W.cell? ⟨w.heap.size, 2, none⟩ = some (.int .i64 B) := (blk_cell X0 2).trans rfl
  have cp3 : W.cell? ⟨w.heap.size, 3, none⟩ = some (.int .i64 A) := (blk_cell X0 3).trans rfl
  have z0 : W.cell? ⟨w.heap.size + 1, 0, none⟩ = some (.int .i64 0) := (blk_cell X1 0).trans rfl
  have fz0 := blk_frozen X1 0
  have z1 : W.cell? ⟨w.heap.size + 1, 1, none⟩ = some (.int .i64 0) := (blk_cell X1 1).trans rfl
  have fz1 := blk_frozen X1 1
  have z2 : W.cell? ⟨w.heap.size + 1, 2, none⟩ = some (.int .i64 0) := (blk_cell X1 2).trans rfl
  have fz2 := blk_frozen X1 2
  have z3 : W.cell? ⟨w.heap.size + 1, 3, none⟩ = some (.int .i64 0) := (blk_cell X1 3).trans rfl
  have fz3 := blk_frozen X1 3
  have HB := Aside0.mk XB
  clear X0 X1 XB
  refine (HH.out _).mono ?_
  rintro e w2 ⟨rfl, hb⟩
  have nb : Aside0 (Below w.heap.size w w2) := ⟨step (by with_reducible repeat (first | exact HB.out | refine below_alloc ?_ _ | refine pw_below_drewN ?_ _ | refine below_drew1 ?_ | refine below_set ?_ (by omega))) hb⟩
  clear HB
  have HB := nb
  clear nb
  have cp0 : w2.cell? ⟨w.heap.size, 0, none⟩ = some (.int .i64 R) := kept hb (by first | (with_reducible assumption) | exact kd (by with_reducible assumption))
  have cp1 : w2.cell? ⟨w.heap.size, 1, none⟩ = some (.int .i64 G) := kept hb (by first | (with_reducible assumption) | exact kd (by with_reducible assumption))
  have cp2 : w2.cell? ⟨w.heap.size, 2, none⟩ = some (.int .i64 B) := kept hb (by first | (with_reducible assumption) | exact kd (by with_reducible assumption))
  have cp3 : w2.cell? ⟨w.heap.size, 3, none⟩ = some (.int .i64 A) := kept hb (by first | (with_reducible assumption) | exact kd (by with_reducible assumption))
  have z0 : w2.cell? ⟨w.heap.size + 1, 0, none⟩ = some (.int .i64 0) := kept hb (by first | (with_reducible assumption) | exact kd (by with_reducible assumption))
  have fz0 : w2.frozen? ⟨w.heap.size + 1, 0, none⟩ = false := keptF hb (.int .i64 0) (by first | (with_reducible assumption) | exact kd (by with_reducible assumption)) (by first | (with_reducible assumption) | exact kf (by with_reducible assumption))
  have z1 : w2.cell? ⟨w.heap.size + 1, 1, none⟩ = some (.int .i64 0) := kept hb (by first | (with_reducible assumption) | exact kd (by with_reducible assumption))
  have fz1 : w2.frozen? ⟨w.heap.size + 1, 1, none⟩ = false := keptF hb (.int .i64 0) (by first | (with_reducible assumption) | exact kd (by with_reducible assumption)) (by first | (with_reducible assumption) | exact kf (by with_reducible assumption))
  have z2 : w2.cell? ⟨w.heap.size + 1, 2, none⟩ = some (.int .i64 0) := kept hb (by first | (with_reducible assumption) | exact kd (by with_reducible assumption))
  have fz2 : w2.frozen? ⟨w.heap.size + 1, 2, none⟩ = false := keptF hb (.int .i64 0) (by first | (with_reducible assumption) | exact kd (by with_reducible assumption)) (by first | (with_reducible assumption) | exact kf (by with_reducible assumption))
  have z3 : w2.cell? ⟨w.heap.size + 1, 3, none⟩ = some (.int .i64 0) := kept hb (by first | (with_reducible assumption) | exact kd (by with_reducible assumption))
  have fz3 : w2.frozen? ⟨w.heap.size + 1, 3, none⟩ = false := keptF hb (.int .i64 0) (by first | (with_reducible assumption) | exact kd (by with_reducible assumption)) (by first | (with_reducible assumption) | exact kf (by with_reducible assumption))
  clear hb
  have q0 : w2.cell? ad = some (.int .i64 p0) := kept HB.out P0.out
  have q1 : w2.cell? ⟨ad.block, ad.off + 1, none⟩ = some (.int .i64 p1) := kept HB.out P1.out
  have q2 : w2.cell? ⟨ad.block, ad.off + 2, none⟩ = some (.int .i64 p2) := kept HB.out P2.out
  dsimp only
  go_wp2
  have hq0 : w2.alloc (.cells #[.int .i64 h, .int .i64 s, .int .i64 l] 51) = w2.alloc (.cells #[.int .i64 h, .int .i64 s, .int .i64 l] 51) := rfl
  have HX := blk_new w2 (.cells #[.int .i64 h, .int .i64 s, .int .i64 l] 51)
  have hb := below_alloc (Below.refl w2.heap.size w2) (.cells #[.int .i64 h, .int .i64 s, .int .i64 l] 51)
  have GL : w.heap.size + 1 < w2.heap.size := World.block_lt_of_cell? w2 _ z0
  have hlt := World.block_lt_of_cell? w _ P0.out
  clear hq0
  generalize w2.alloc (.cells #[.int .i64 h, .int .i64 s, .int .i64 l] 51) = w3 at *
  have nb : Aside0 (Below w.heap.size w w3) := ⟨step HB.out hb⟩
  clear HB
  have HB := nb
  clear nb
  have h0 : w3.cell? ⟨w2.heap.size, 0, none⟩ = some (.int .i64 h) := (blk_cell HX 0).trans rfl
  have h1 : w3.cell? ⟨w2.heap.size, 1, none⟩ = some (.int .i64 s) := (blk_cell HX 1).trans rfl
  have h2 : w3.cell? ⟨w2.heap.size, 2, none⟩ = some (.int .i64 l) := (blk_cell HX 2).trans rfl
  have cp3 : w3.cell? ⟨w.heap.size, 3, none⟩ = some (.int .i64 A) := kept hb cp3
  have z0 : w3.cell? ⟨w.heap.size + 1, 0, none⟩ = some (.int .i64 0) := kept hb (by first | (with_reducible assumption) | exact kd (by with_reducible assumption))
  have fz0 : w3.frozen? ⟨w.heap.size + 1, 0, none⟩ = false := keptF hb (.int .i64 0) (by first | (with_reducible assumption) | exact kd (by with_reducible assumption)) (by first | (with_reducible assumption) | exact kf (by with_reducible assumption))
  have z1 : w3.cell? ⟨w.heap.size + 1, 1, none⟩ = some (.int .i64 0) := kept hb (by first | (with_reducible assumption) | exact kd (by with_reducible assumption))
  have fz1 : w3.frozen? ⟨w.heap.size + 1, 1, none⟩ = false := keptF hb (.int .i64 0) (by first | (with_reducible assumption) | exact kd (by with_reducible assumption)) (by first | (with_reducible assumption) | exact kf (by with_reducible assumption))
  have z2 : w3.cell? ⟨w.heap.size + 1, 2, none⟩ = some (.int .i64 0) := kept hb (by first | (with_reducible assumption) | exact kd (by with_reducible assumption))
  have fz2 : w3.frozen? ⟨w.heap.size + 1, 2, none⟩ = false := keptF hb (.int .i64 0) (by first | (with_reducible assumption) | exact kd (by with_reducible assumption)) (by first | (with_reducible assumption) | exact kf (by with_reducible assumption))
  have z3 : w3.cell? ⟨w.heap.size + 1, 3, none⟩ = some (.int .i64 0) := kept hb (by first | (with_reducible assumption) | exact kd (by with_reducible assumption))
  have fz3 : w3.frozen? ⟨w.heap.size + 1, 3, none⟩ = false := keptF hb (.int .i64 0) (by first | (with_reducible assumption) | exact kd (by with_reducible assumption)) (by first | (with_reducible assumption) | exact kf (by with_reducible assumption))
  have q0 : w3.cell? ad = some (.int .i64 p0) := kept hb q0
  have q1 : w3.cell? ⟨ad.block, ad.off + 1, none⟩ = some (.int .i64 p1) := kept hb q1
  have q2 : w3.cell? ⟨ad.block, ad.off + 2, none⟩ = some (.int .i64 p2) := kept hb q2
  generalize w2.heap.size = g at *
  clear hb HX
  go_region_held3 (fun w' => w'.cell? ⟨g, 0, none⟩ = some (.int .i64 h) ∧ w'.cell? ⟨g, 1, none⟩ = some (.int .i64 s) ∧ w'.cell? ⟨g, 2, none⟩ = some (.int .i64 l) ∧ w'.cell? ad = some (.int .i64 p0) ∧ w'.cell? ⟨ad.block, ad.off + 1, none⟩ = some (.int .i64 p1) ∧ w'.cell? ⟨ad.block, ad.off + 2, none⟩ = some (.int .i64 p2) ∧ w'.cell? ⟨w.heap.size, 3, none⟩ = some (.int .i64 A))
    (with_reducible (first | exact ⟨kept hb (by assumption), kept hb (by assumption), kept hb (by assumption), kept hb (by assumption), kept hb (by assumption), kept hb (by assumption), kept hb (by assumption)⟩ | (go_split_ands; exact ⟨kept hb (by assumption), kept hb (by assumption), kept hb (by assumption), kept hb (by assumption), kept hb (by assumption), kept hb (by assumption), kept hb (by assumption)⟩) | (refine ⟨?_, ?_, ?_, ?_, ?_, ?_, ?_⟩ <;> first | (simp only [World.cell?_drew]; assumption) | (refine far4 (by first | omega | (dsimp only; omega)) ?_; assumption))))
    ((go_at_call 89; refine (HM.out _).mono ?_; rintro e w' ⟨rfl, hb⟩; have nb : Aside0 (Below w.heap.size w w') := ⟨step (by with_reducible repeat (first | exact HB.out | refine below_alloc ?_ _ | refine pw_below_drewN ?_ _ | refine below_drew1 ?_ | refine below_set ?_ (by omega))) hb⟩; clear HB; have HB := nb; clear nb; have cp3 : w'.cell? ⟨w.heap.size, 3, none⟩ = some (.int .i64 A) := kept hb (by first | (with_reducible assumption) | exact kd (by with_reducible assumption)); have z0 : w'.cell? ⟨w.heap.size + 1, 0, none⟩ = some (.int .i64 0) := kept hb (by first | (with_reducible assumption) | exact kd (by with_reducible assumption)); have fz0 : w'.frozen? ⟨w.heap.size + 1, 0, none⟩ = false := keptF hb (.int .i64 0) (by first | (with_reducible assumption) | exact kd (by with_reducible assumption)) (by first | (with_reducible assumption) | exact kf (by with_reducible assumption)); have z1 : w'.cell? ⟨w.heap.size + 1, 1, none⟩ = some (.int .i64 0) := kept hb (by first | (with_reducible assumption) | exact kd (by with_reducible assumption)); have fz1 : w'.frozen? ⟨w.heap.size + 1, 1, none⟩ = false := keptF hb (.int .i64 0) (by first | (with_reducible assumption) | exact kd (by with_reducible assumption)) (by first | (with_reducible assumption) | exact kf (by with_reducible assumption)); have z2 : w'.cell? ⟨w.heap.size + 1, 2, none⟩ = some (.int .i64 0) := kept hb (by first | (with_reducible assumption) | exact kd (by with_reducible assumption)); have fz2 : w'.frozen? ⟨w.heap.size + 1, 2, none⟩ = false := keptF hb (.int .i64 0) (by first | (with_reducible assumption) | exact kd (by with_reducible assumption)) (by first | (with_reducible assumption) | exact kf (by with_reducible assumption)); have z3 : w'.cell? ⟨w.heap.size + 1, 3, none⟩ = some (.int .i64 0) := kept hb (by first | (with_reducible assumption) | exact kd (by with_reducible assumption)); have fz3 : w'.frozen? ⟨w.heap.size + 1, 3, none⟩ = false := keptF hb (.int .i64 0) (by first | (with_reducible assumption) | exact kd (by with_reducible assumption)) (by first | (with_reducible assumption) | exact kf (by with_reducible assumption)); have h0 : w'.cell? ⟨g, 0, none⟩ = some (.int .i64 h) := kept hb (by first | (with_reducible assumption) | exact kd (by with_reducible assumption)); have h1 : w'.cell? ⟨g, 1, none⟩ = some (.int .i64 s) := kept hb (by first | (with_reducible assumption) | exact kd (by with_reducible assumption)); have h2 : w'.cell? ⟨g, 2, none⟩ = some (.int .i64 l) := kept hb (by first | (with_reducible assumption) | exact kd (by with_reducible assumption)); have q0 : w'.cell? ad = some (.int .i64 p0) := kept hb (by first | (with_reducible assumption) | exact kd (by with_reducible assumption)); have q1 : w'.cell? ⟨ad.block, ad.off + 1, none⟩ = some (.int .i64 p1) := kept hb (by first | (with_reducible assumption) | exact kd (by with_reducible assumption)); have q2 : w'.cell? ⟨ad.block, ad.off + 2, none⟩ = some (.int .i64 p2) := kept hb (by first | (with_reducible assumption) | exact kd (by with_reducible assumption))))
  go_wp2
  go_region_held3 (fun w' => w'.cell? ⟨g, 0, none⟩ = some (.int .i64 h) ∧ w'.cell? ⟨g, 1, none⟩ = some (.int .i64 s) ∧ w'.cell? ⟨g, 2, none⟩ = some (.int .i64 l) ∧ w'.cell? ad = some (.int .i64 p0) ∧ w'.cell? ⟨ad.block, ad.off + 1, none⟩ = some (.int .i64 p1) ∧ w'.cell? ⟨ad.block, ad.off + 2, none⟩ = some (.int .i64 p2) ∧ w'.cell? ⟨w.heap.size, 3, none⟩ = some (.int .i64 A))
    (with_reducible (first | exact ⟨kept hb (by assumption), kept hb (by assumption), kept hb (by assumption), kept hb (by assumption), kept hb (by assumption), kept hb (by assumption), kept hb (by assumption)⟩ | (go_split_ands; exact ⟨kept hb (by assumption), kept hb (by assumption), kept hb (by assumption), kept hb (by assumption), kept hb (by assumption), kept hb (by assumption), kept hb (by assumption)⟩) | (refine ⟨?_, ?_, ?_, ?_, ?_, ?_, ?_⟩ <;> first | (simp only [World.cell?_drew]; assumption) | (refine far4 (by first | omega | (dsimp only; omega)) ?_; assumption))))
    ((go_at_call 89; refine (HK.out _).mono ?_; rintro e w' ⟨rfl, hb⟩; have nb : Aside0 (Below w.heap.size w w') := ⟨step (by with_reducible repeat (first | exact HB.out | refine below_alloc ?_ _ | refine pw_below_drewN ?_ _ | refine below_drew1 ?_ | refine below_set ?_ (by omega))) hb⟩; clear HB; have HB := nb; clear nb; have cp3 : w'.cell? ⟨w.heap.size, 3, none⟩ = some (.int .i64 A) := kept hb (by first | (with_reducible assumption) | exact kd (by with_reducible assumption)); have z0 : w'.cell? ⟨w.heap.size + 1, 0, none⟩ = some (.int .i64 0) := kept hb (by first | (with_reducible assumption) | exact kd (by with_reducible assumption)); have fz0 : w'.frozen? ⟨w.heap.size + 1, 0, none⟩ = false := keptF hb (.int .i64 0) (by first | (with_reducible assumption) | exact kd (by with_reducible assumption)) (by first | (with_reducible assumption) | exact kf (by with_reducible assumption)); have z1 : w'.cell? ⟨w.heap.size + 1, 1, none⟩ = some (.int .i64 0) := kept hb (by first | (with_reducible assumption) | exact kd (by with_reducible assumption)); have fz1 : w'.frozen? ⟨w.heap.size + 1, 1, none⟩ = false := keptF hb (.int .i64 0) (by first | (with_reducible assumption) | exact kd (by with_reducible assumption)) (by first | (with_reducible assumption) | exact kf (by with_reducible assumption)); have z2 : w'.cell? ⟨w.heap.size + 1, 2, none⟩ = some (.int .i64 0) := kept hb (by first | (with_reducible assumption) | exact kd (by with_reducible assumption)); have fz2 : w'.frozen? ⟨w.heap.size + 1, 2, none⟩ = false := keptF hb (.int .i64 0) (by first | (with_reducible assumption) | exact kd (by with_reducible assumption)) (by first | (with_reducible assumption) | exact kf (by with_reducible assumption)); have z3 : w'.cell? ⟨w.heap.size + 1, 3, none⟩ = some (.int .i64 0) := kept hb (by first | (with_reducible assumption) | exact kd (by with_reducible assumption)); have fz3 : w'.frozen? ⟨w.heap.size + 1, 3, none⟩ = false := keptF hb (.int .i64 0) (by first | (with_reducible assumption) | exact kd (by with_reducible assumption)) (by first | (with_reducible assumption) | exact kf (by with_reducible assumption)); have h0 : w'.cell? ⟨g, 0, none⟩ = some (.int .i64 h) := kept hb (by first | (with_reducible assumption) | exact kd (by with_reducible assumption)); have h1 : w'.cell? ⟨g, 1, none⟩ = some (.int .i64 s) := kept hb (by first | (with_reducible assumption) | exact kd (by with_reducible assumption)); have h2 : w'.cell? ⟨g, 2, none⟩ = some (.int .i64 l) := kept hb (by first | (with_reducible assumption) | exact kd (by with_reducible assumption)); have q0 : w'.cell? ad = some (.int .i64 p0) := kept hb (by first | (with_reducible assumption) | exact kd (by with_reducible assumption)); have q1 : w'.cell? ⟨ad.block, ad.off + 1, none⟩ = some (.int .i64 p1) := kept hb (by first | (with_reducible assumption) | exact kd (by with_reducible assumption)); have q2 : w'.cell? ⟨ad.block, ad.off + 2, none⟩ = some (.int .i64 p2) := kept hb (by first | (with_reducible assumption) | exact kd (by with_reducible assumption))))
  go_wp2
  go_region_held3 (fun w' => w'.cell? ⟨g, 0, none⟩ = some (.int .i64 h) ∧ w'.cell? ⟨g, 1, none⟩ = some (.int .i64 s) ∧ w'.cell? ⟨g, 2, none⟩ = some (.int .i64 l) ∧ w'.cell? ad = some (.int .i64 p0) ∧ w'.cell? ⟨ad.block, ad.off + 1, none⟩ = some (.int .i64 p1) ∧ w'.cell? ⟨ad.block, ad.off + 2, none⟩ = some (.int .i64 p2) ∧ w'.cell? ⟨w.heap.size, 3, none⟩ = some (.int .i64 A))
    (with_reducible (first | exact ⟨kept hb (by assumption), kept hb (by assumption), kept hb (by assumption), kept hb (by assumption), kept hb (by assumption), kept hb (by assumption), kept hb (by assumption)⟩ | (go_split_ands; exact ⟨kept hb (by assumption), kept hb (by assumption), kept hb (by assumption), kept hb (by assumption), kept hb (by assumption), kept hb (by assumption), kept hb (by assumption)⟩) | (refine ⟨?_, ?_, ?_, ?_, ?_, ?_, ?_⟩ <;> first | (simp only [World.cell?_drew]; assumption) | (refine far4 (by first | omega | (dsimp only; omega)) ?_; assumption))))
    (((first | (go_at_call 53; refine (Qt.below (HD.out _)).mono ?_) | (go_at_call 66; refine (Qt.below (HL.out _)).mono ?_) | (go_at_call 43; refine (HF.out _).mono ?_)); rintro e w' ⟨rfl, hb⟩; have nb : Aside0 (Below w.heap.size w w') := ⟨step (by with_reducible repeat (first | exact HB.out | refine below_alloc ?_ _ | refine pw_below_drewN ?_ _ | refine below_drew1 ?_ | refine below_set ?_ (by omega))) hb⟩; clear HB; have HB := nb; clear nb; have cp3 : w'.cell? ⟨w.heap.size, 3, none⟩ = some (.int .i64 A) := kept hb (by first | (with_reducible assumption) | exact kd (by with_reducible assumption)); have z0 : w'.cell? ⟨w.heap.size + 1, 0, none⟩ = some (.int .i64 0) := kept hb (by first | (with_reducible assumption) | exact kd (by with_reducible assumption)); have fz0 : w'.frozen? ⟨w.heap.size + 1, 0, none⟩ = false := keptF hb (.int .i64 0) (by first | (with_reducible assumption) | exact kd (by with_reducible assumption)) (by first | (with_reducible assumption) | exact kf (by with_reducible assumption)); have z1 : w'.cell? ⟨w.heap.size + 1, 1, none⟩ = some (.int .i64 0) := kept hb (by first | (with_reducible assumption) | exact kd (by with_reducible assumption)); have fz1 : w'.frozen? ⟨w.heap.size + 1, 1, none⟩ = false := keptF hb (.int .i64 0) (by first | (with_reducible assumption) | exact kd (by with_reducible assumption)) (by first | (with_reducible assumption) | exact kf (by with_reducible assumption)); have z2 : w'.cell? ⟨w.heap.size + 1, 2, none⟩ = some (.int .i64 0) := kept hb (by first | (with_reducible assumption) | exact kd (by with_reducible assumption)); have fz2 : w'.frozen? ⟨w.heap.size + 1, 2, none⟩ = false := keptF hb (.int .i64 0) (by first | (with_reducible assumption) | exact kd (by with_reducible assumption)) (by first | (with_reducible assumption) | exact kf (by with_reducible assumption)); have z3 : w'.cell? ⟨w.heap.size + 1, 3, none⟩ = some (.int .i64 0) := kept hb (by first | (with_reducible assumption) | exact kd (by with_reducible assumption)); have fz3 : w'.frozen? ⟨w.heap.size + 1, 3, none⟩ = false := keptF hb (.int .i64 0) (by first | (with_reducible assumption) | exact kd (by with_reducible assumption)) (by first | (with_reducible assumption) | exact kf (by with_reducible assumption)); have h0 : w'.cell? ⟨g, 0, none⟩ = some (.int .i64 h) := kept hb (by first | (with_reducible assumption) | exact kd (by with_reducible assumption)); have h1 : w'.cell? ⟨g, 1, none⟩ = some (.int .i64 s) := kept hb (by first | (with_reducible assumption) | exact kd (by with_reducible assumption)); have h2 : w'.cell? ⟨g, 2, none⟩ = some (.int .i64 l) := kept hb (by first | (with_reducible assumption) | exact kd (by with_reducible assumption)); have q0 : w'.cell? ad = some (.int .i64 p0) := kept hb (by first | (with_reducible assumption) | exact kd (by with_reducible assumption)); have q1 : w'.cell? ⟨ad.block, ad.off + 1, none⟩ = some (.int .i64 p1) := kept hb (by first | (with_reducible assumption) | exact kd (by with_reducible assumption)); have q2 : w'.cell? ⟨ad.block, ad.off + 2, none⟩ = some (.int .i64 p2) := kept hb (by first | (with_reducible assumption) | exact kd (by with_reducible assumption))))
  go_wp2
  refine bodyPost_ret (v := .agg #[.int .i64 x0, .int .i64 x1, .int .i64 x2, .int .i64 x3]) (by simp [results, Try.results57, go_sem, z0, z1, z2, z3]) rfl ⟨rfl, ?_⟩
  repeat (first | exact HB.out | refine below_set ?_ (by omega) | refine pw_below_drewN ?_ _ | refine below_drew1 ?_)
end Go.Proofs.Ytmgpmpiondciiaa.Adj
