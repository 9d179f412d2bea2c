/- imageeditorlaw17.AdjustTwice answers true. No condition but that the numbers are of their types. -/
import Derived.Test.YtmgpmpiondciiaaAdjTwice
import Derived.Test.YtmgpmpiondciiaaAdjAwake
namespace Go.Proofs.Ytmgpmpiondciiaa.Adj
open Go.RowKit Go.Proofs.Ytmgpmpiondciiaa.PAdjustImages Go.Proofs.YtmgpmpiondciiaaW.PrintWords Go.Proofs.YtmgpmpiondciiaaW.PrintMore Go.Proofs.Ytmgpmpiondciiaa.Plain
/-- What lies in memory all through the loop: the kinds, the three lists, the list of lists, and the pixel. -/
structure TwF (s b : Nat) (l0 l1 l2 l3 l4 R G B A : Int) (w W : World) : Prop where
  kinds : W.heap[s]? = some (.cells #[.int .i64 6, .int .i64 7, .int .i64 9] 3 (0, 0))
  c6 : W.heap[s + 1]? = some (.cells #[.int .i64 l0] 3 (0, 0))
  c7 : W.heap[s + 1 + 1]? = some (.cells #[.int .i64 l1] 3 (0, 0))
  c9 : W.heap[s + 1 + 1 + 1]? = some (.cells #[.int .i64 l2, .int .i64 l3, .int .i64 l4] 3 (0, 0))
  ll : W.heap[s + 1 + 1 + 1 + 1]? = some (.cells #[.slice (some ⟨s + 1, 0, none⟩) 1 1, .slice (some ⟨s + 1 + 1, 0, none⟩) 1 1, .slice (some ⟨s + 1 + 1 + 1, 0, none⟩) 3 3] 32 (0, 0))
  px : W.heap[b]? = some (.cells #[.int .i64 R, .int .i64 G, .int .i64 B, .int .i64 A] 45 (0, 0))
  lt : b < s
  big : s + 5 ≤ W.heap.size
  low : w.heap.size ≤ s
  bel : Below w.heap.size w W
section
variable {s b : Nat} {l0 l1 l2 l3 l4 R G B A : Int} {w W W1 : World}
theorem TwF.step (h : TwF s b l0 l1 l2 l3 l4 R G B A w W) (hm : ∀ k, k < s + 5 → W1.heap[k]? = W.heap[k]?) (hs : W.heap.size ≤ W1.heap.size) (hb : Below w.heap.size w W1) : TwF s b l0 l1 l2 l3 l4 R G B A w W1 :=
  ⟨(hm _ (by omega)).trans h.kinds, (hm _ (by omega)).trans h.c6, (hm _ (by omega)).trans h.c7, (hm _ (by omega)).trans h.c9, (hm _ (by omega)).trans h.ll, (hm _ (by have := h.lt; omega)).trans h.px, h.lt, by have := h.big; omega, h.low, hb⟩
theorem TwF.below (h : TwF s b l0 l1 l2 l3 l4 R G B A w W) (hb : Below W.heap.size W W1) : TwF s b l0 l1 l2 l3 l4 R G B A w W1 :=
  h.step (fun k hk => hb.block k (by have := h.big; omega)) hb.size (Adj.step h.bel hb)
theorem TwF.drew (h : TwF s b l0 l1 l2 l3 l4 R G B A w W) : TwF s b l0 l1 l2 l3 l4 R G B A w W.drew := h.below (below_drew (Below.refl _ _))
theorem TwF.alloc (h : TwF s b l0 l1 l2 l3 l4 R G B A w W) (o : Obj) : TwF s b l0 l1 l2 l3 l4 R G B A w (W.alloc o) := h.below (below_alloc (Below.refl _ _) o)
theorem TwF.set (h : TwF s b l0 l1 l2 l3 l4 R G B A w W) (g i : Nat) (v : Value) (hg : s + 5 ≤ g) : TwF s b l0 l1 l2 l3 l4 R G B A w (W.setCell ⟨g, i, none⟩ v) :=
  h.step (fun k hk => Below.heap_setCell W ⟨g, i, none⟩ v k (by show k ≠ g; omega)) (by simp) (below_set h.bel (by have := h.low; show w.heap.size ≤ g; omega))
end
theorem five (X : World) (a c d e f : Obj) : ((((((X.alloc a).alloc c).alloc d).alloc e).alloc f).heap[X.heap.size]? = some a) ∧ ((((((X.alloc a).alloc c).alloc d).alloc e).alloc f).heap[X.heap.size + 1]? = some c) ∧ ((((((X.alloc a).alloc c).alloc d).alloc e).alloc f).heap[X.heap.size + 1 + 1]? = some d) ∧ ((((((X.alloc a).alloc c).alloc d).alloc e).alloc f).heap[X.heap.size + 1 + 1 + 1]? = some e) ∧ ((((((X.alloc a).alloc c).alloc d).alloc e).alloc f).heap[X.heap.size + 1 + 1 + 1 + 1]? = some f) := by
  have h1 := blk_new (X.alloc a) c
  have h2 := blk_new ((X.alloc a).alloc c) d
  have h3 := blk_new (((X.alloc a).alloc c).alloc d) e
  have h4 := blk_new ((((X.alloc a).alloc c).alloc d).alloc e) f
  simp only [World.size_alloc] at h1 h2 h3 h4
  exact ⟨blk_alloc (blk_alloc (blk_alloc (blk_alloc (blk_new X a) c) d) e) f, blk_alloc (blk_alloc (blk_alloc h1 d) e) f, blk_alloc (blk_alloc h2 e) f, blk_alloc h3 f, h4⟩
set_option maxRecDepth 100000 in
set_option maxHeartbeats 8000000 in
theorem twice_invalid (R G B A lim0 a0 b0 c0 lv : Int) (w : World) (h : vldB R G B A = false) :
    Calls Try.prog 15 #[.agg #[.int .i64 R, .int .i64 G, .int .i64 B, .int .i64 A], .int .u16 lim0, .int .u16 a0, .int .u16 b0, .int .u16 c0, .int .u8 lv] w fun e w' => e = .returned (.bool true) ∧ Below w.heap.size w w' := by
  go_enter Try.func15, Try.ntmps15
  go_wp2_with fail
  have X0 := blk_new w (.cells #[.int .i64 R, .int .i64 G, .int .i64 B, .int .i64 A] 45)
  have XB := below_alloc (Below.refl w.heap.size w) (.cells #[.int .i64 R, .int .i64 G, .int .i64 B, .int .i64 A] 45)
  refine (awake_any _).mono ?_
  rintro e w1 ⟨rfl, hb⟩
  have Y0 := blk_below X0 hb
  have YB := step XB hb
  clear X0 XB hb
  have p0 : w1.cell? ⟨w.heap.size, 0, none⟩ = some (.int .i64 R) := (blk_cell Y0 0).trans rfl
  have p1 : w1.cell? ⟨w.heap.size, 1, none⟩ = some (.int .i64 G) := (blk_cell Y0 1).trans rfl
  have p2 : w1.cell? ⟨w.heap.size, 2, none⟩ = some (.int .i64 B) := (blk_cell Y0 2).trans rfl
  have p3 : w1.cell? ⟨w.heap.size, 3, none⟩ = some (.int .i64 A) := (blk_cell Y0 3).trans rfl
  dsimp only
  go_wp2_with fail
  refine (Valid_any R G B A _).mono ?_
  rw [h]
  rintro e w2 ⟨rfl, hb⟩
  have Z0 := blk_below Y0 hb
  have ZB := Aside0.mk (step YB hb)
  clear Y0 YB hb p0 p1 p2 p3
  have p0 : w2.cell? ⟨w.heap.size, 0, none⟩ = some (.int .i64 R) := (blk_cell Z0 0).trans rfl
  have p1 : w2.cell? ⟨w.heap.size, 1, none⟩ = some (.int .i64 G) := (blk_cell Z0 1).trans rfl
  have p2 : w2.cell? ⟨w.heap.size, 2, none⟩ = some (.int .i64 B) := (blk_cell Z0 2).trans rfl
  have p3 : w2.cell? ⟨w.heap.size, 3, none⟩ = some (.int .i64 A) := (blk_cell Z0 3).trans rfl
  dsimp only
  go_wp2_with fail
  refine (awake_any _).mono ?_
  rintro e w3 ⟨rfl, hb⟩
  have VB := Aside0.mk (step ZB.out hb)
  clear Z0 ZB hb p0 p1 p2 p3
  dsimp only
  go_wp2
  go_ret
  exact ⟨rfl, VB.out⟩
set_option maxRecDepth 100000 in
set_option maxHeartbeats 8000000 in
theorem twice_clear (R G B A lim0 a0 b0 c0 lv : Int) (w : World) (h : vldB R G B A = true) (h1 : decide (A < 1) = true) :
    Calls Try.prog 15 #[.agg #[.int .i64 R, .int .i64 G, .int .i64 B, .int .i64 A], .int .u16 lim0, .int .u16 a0, .int .u16 b0, .int .u16 c0, .int .u8 lv] w fun e w' => e = .returned (.bool true) ∧ Below w.heap.size w w' := by
  go_enter Try.func15, Try.ntmps15
  go_wp2_with fail
  have X0 := blk_new w (.cells #[.int .i64 R, .int .i64 G, .int .i64 B, .int .i64 A] 45)
  have XB := below_alloc (Below.refl w.heap.size w) (.cells #[.int .i64 R, .int .i64 G, .int .i64 B, .int .i64 A] 45)
  refine (awake_any _).mono ?_
  rintro e w1 ⟨rfl, hb⟩
  have Y0 := blk_below X0 hb
  have YB := step XB hb
  clear X0 XB hb
  have p0 : w1.cell? ⟨w.heap.size, 0, none⟩ = some (.int .i64 R) := (blk_cell Y0 0).trans rfl
  have p1 : w1.cell? ⟨w.heap.size, 1, none⟩ = some (.int .i64 G) := (blk_cell Y0 1).trans rfl
  have p2 : w1.cell? ⟨w.heap.size, 2, none⟩ = some (.int .i64 B) := (blk_cell Y0 2).trans rfl
  have p3 : w1.cell? ⟨w.heap.size, 3, none⟩ = some (.int .i64 A) := (blk_cell Y0 3).trans rfl
  dsimp only
  go_wp2_with fail
  refine (Valid_any R G B A _).mono ?_
  rw [h]
  rintro e w2 ⟨rfl, hb⟩
  have Z0 := blk_below Y0 hb
  have ZB := Aside0.mk (step YB hb)
  clear Y0 YB hb p0 p1 p2 p3
  have p0 : w2.cell? ⟨w.heap.size, 0, none⟩ = some (.int .i64 R) := (blk_cell Z0 0).trans rfl
  have p1 : w2.cell? ⟨w.heap.size, 1, none⟩ = some (.int .i64 G) := (blk_cell Z0 1).trans rfl
  have p2 : w2.cell? ⟨w.heap.size, 2, none⟩ = some (.int .i64 B) := (blk_cell Z0 2).trans rfl
  have p3 : w2.cell? ⟨w.heap.size, 3, none⟩ = some (.int .i64 A) := (blk_cell Z0 3).trans rfl
  dsimp only
  go_wp2_with fail
  refine (awake_any _).mono ?_
  rintro e w3 ⟨rfl, hb⟩
  have VB := Aside0.mk (step ZB.out hb)
  clear Z0 ZB hb p0 p1 p2 p3
  dsimp only
  go_wp2
  go_ret
  exact ⟨rfl, VB.out⟩
set_option maxRecDepth 100000 in
set_option maxHeartbeats 16000000 in
theorem twice_main (R G B A lim0 a0 b0 c0 lv l1 l4 x0 x1 x2 y0 y1 y2 z0 z1 z2 : Int) (w : World) (hv : vldB R G B A = true) (h1 : decide (A < 1) = false) (E0 : wrap64 lim0 = lim0) (E1 : wrap64 a0 = a0) (E2 : wrap64 b0 = b0) (E3 : wrap64 c0 = c0) (E4 : wrap64 lv = lv) (E5 : wrap64 (2 + lv.tmod 255) = l1) (E6 : wrap64 (1 + c0.tmod 65535) = l4)
    (HI : Aside0 (∀ w1, Calls Try.prog 36 #[.int .i64 1, .slice none 0 0, .slice none 0 0, .agg #[.int .i64 R, .int .i64 G, .int .i64 B, .int .i64 A]] w1 fun e w' => e = .returned (.tuple #[.agg #[.int .i64 (65535 - R), .int .i64 (65535 - G), .int .i64 (65535 - B), .int .i64 A], .int .i64 0]) ∧ Below w1.heap.size w1 w'))
    (HJ : Aside0 (∀ w1, Calls Try.prog 36 #[.int .i64 1, .slice none 0 0, .slice none 0 0, .agg #[.int .i64 (65535 - R), .int .i64 (65535 - G), .int .i64 (65535 - B), .int .i64 A]] w1 fun e w' => e = .returned (.tuple #[.agg #[.int .i64 R, .int .i64 G, .int .i64 B, .int .i64 A], .int .i64 0]) ∧ Below w1.heap.size w1 w'))
    (H0 : Aside0 (∀ s W, TwF s w.heap.size lim0 l1 a0 b0 l4 R G B A w W → Calls Try.prog 36 #[.int .i64 6, .slice (some ⟨s + 1, 0, none⟩) 1 1, .slice none 0 0, .agg #[.int .i64 R, .int .i64 G, .int .i64 B, .int .i64 A]] W fun e w' => e = .returned (.tuple #[.agg #[.int .i64 x0, .int .i64 x1, .int .i64 x2, .int .i64 A], .int .i64 0]) ∧ Below W.heap.size W w'))
    (G0 : Aside0 (∀ s W, TwF s w.heap.size lim0 l1 a0 b0 l4 R G B A w W → Calls Try.prog 36 #[.int .i64 6, .slice (some ⟨s + 1, 0, none⟩) 1 1, .slice none 0 0, .agg #[.int .i64 x0, .int .i64 x1, .int .i64 x2, .int .i64 A]] W fun e w' => e = .returned (.tuple #[.agg #[.int .i64 x0, .int .i64 x1, .int .i64 x2, .int .i64 A], .int .i64 0]) ∧ Below W.heap.size W w'))
    (H1 : Aside0 (∀ s W, TwF s w.heap.size lim0 l1 a0 b0 l4 R G B A w W → Calls Try.prog 36 #[.int .i64 7, .slice (some ⟨s + 1 + 1, 0, none⟩) 1 1, .slice none 0 0, .agg #[.int .i64 R, .int .i64 G, .int .i64 B, .int .i64 A]] W fun e w' => e = .returned (.tuple #[.agg #[.int .i64 y0, .int .i64 y1, .int .i64 y2, .int .i64 A], .int .i64 0]) ∧ Below W.heap.size W w'))
    (G1 : Aside0 (∀ s W, TwF s w.heap.size lim0 l1 a0 b0 l4 R G B A w W → Calls Try.prog 36 #[.int .i64 7, .slice (some ⟨s + 1 + 1, 0, none⟩) 1 1, .slice none 0 0, .agg #[.int .i64 y0, .int .i64 y1, .int .i64 y2, .int .i64 A]] W fun e w' => e = .returned (.tuple #[.agg #[.int .i64 y0, .int .i64 y1, .int .i64 y2, .int .i64 A], .int .i64 0]) ∧ Below W.heap.size W w'))
    (H2 : Aside0 (∀ s W, TwF s w.heap.size lim0 l1 a0 b0 l4 R G B A w W → Calls Try.prog 36 #[.int .i64 9, .slice (some ⟨s + 1 + 1 + 1, 0, none⟩) 3 3, .slice none 0 0, .agg #[.int .i64 R, .int .i64 G, .int .i64 B, .int .i64 A]] W fun e w' => e = .returned (.tuple #[.agg #[.int .i64 z0, .int .i64 z1, .int .i64 z2, .int .i64 A], .int .i64 0]) ∧ Below W.heap.size W w'))
    (G2 : Aside0 (∀ s W, TwF s w.heap.size lim0 l1 a0 b0 l4 R G B A w W → Calls Try.prog 36 #[.int .i64 9, .slice (some ⟨s + 1 + 1 + 1, 0, none⟩) 3 3, .slice none 0 0, .agg #[.int .i64 z0, .int .i64 z1, .int .i64 z2, .int .i64 A]] W fun e w' => e = .returned (.tuple #[.agg #[.int .i64 z0, .int .i64 z1, .int .i64 z2, .int .i64 A], .int .i64 0]) ∧ Below W.heap.size W w')) :
    Calls Try.prog 15 #[.agg #[.int .i64 R, .int .i64 G, .int .i64 B, .int .i64 A], .int .u16 lim0, .int .u16 a0, .int .u16 b0, .int .u16 c0, .int .u8 lv] w fun e w' => e = .returned (.bool true) ∧ Below w.heap.size w w' := by
  go_enter Try.func15, Try.ntmps15
  go_wp2_with fail
  have X0 := blk_new w (.cells #[.int .i64 R, .int .i64 G, .int .i64 B, .int .i64 A] 45)
  have XB := below_alloc (Below.refl w.heap.size w) (.cells #[.int .i64 R, .int .i64 G, .int .i64 B, .int .i64 A] 45)
  refine (awake_any _).mono ?_
  rintro e w1 ⟨rfl, hb⟩
  have Y0 := blk_below X0 hb
  have YB := step XB hb
  clear X0 XB hb
  have p0 : w1.cell? ⟨w.heap.size, 0, none⟩ = some (.int .i64 R) := (blk_cell Y0 0).trans rfl
  have p1 : w1.cell? ⟨w.heap.size, 1, none⟩ = some (.int .i64 G) := (blk_cell Y0 1).trans rfl
  have p2 : w1.cell? ⟨w.heap.size, 2, none⟩ = some (.int .i64 B) := (blk_cell Y0 2).trans rfl
  have p3 : w1.cell? ⟨w.heap.size, 3, none⟩ = some (.int .i64 A) := (blk_cell Y0 3).trans rfl
  dsimp only
  go_wp2_with fail
  refine (Valid_any R G B A _).mono ?_
  rw [hv]
  rintro e w2 ⟨rfl, hb⟩
  have Z0 := blk_below Y0 hb
  have ZB := Aside0.mk (step YB hb)
  clear Y0 YB hb p0 p1 p2 p3
  have p0 : w2.cell? ⟨w.heap.size, 0, none⟩ = some (.int .i64 R) := (blk_cell Z0 0).trans rfl
  have p1 : w2.cell? ⟨w.heap.size, 1, none⟩ = some (.int .i64 G) := (blk_cell Z0 1).trans rfl
  have p2 : w2.cell? ⟨w.heap.size, 2, none⟩ = some (.int .i64 B) := (blk_cell Z0 2).trans rfl
  have p3 : w2.cell? ⟨w.heap.size, 3, none⟩ = some (.int .i64 A) := (blk_cell Z0 3).trans rfl
  dsimp only
  go_wp2_with fail
  refine (HI.out _).mono ?_
  rintro e w3 ⟨rfl, hb⟩
  have V0 := blk_below Z0 hb
  have VB := Aside0.mk (step ZB.out hb)
  clear Z0 ZB hb p0 p1 p2 p3
  dsimp only
  go_wp2_with fail
  have VN := blk_new w3 (.cells #[.int .i64 (65535 - R), .int .i64 (65535 - G), .int .i64 (65535 - B), .int .i64 A] 45)
  refine (HJ.out _).mono ?_
  rintro e w4 ⟨rfl, hb⟩
  have T0 := blk_below (blk_alloc V0 (.cells #[.int .i64 (65535 - R), .int .i64 (65535 - G), .int .i64 (65535 - B), .int .i64 A] 45)) hb
  have T1 := blk_below VN hb
  have TB := step (below_alloc VB.out (.cells #[.int .i64 (65535 - R), .int .i64 (65535 - G), .int .i64 (65535 - B), .int .i64 A] 45)) hb
  have L1 := blk_lt V0
  have L2 := VB.out.size
  have L3 := hb.size
  simp only [World.size_alloc] at L3
  clear V0 VB VN hb
  have p0 : w4.cell? ⟨w.heap.size, 0, none⟩ = some (.int .i64 R) := (blk_cell T0 0).trans rfl
  have p1 : w4.cell? ⟨w.heap.size, 1, none⟩ = some (.int .i64 G) := (blk_cell T0 1).trans rfl
  have p2 : w4.cell? ⟨w.heap.size, 2, none⟩ = some (.int .i64 B) := (blk_cell T0 2).trans rfl
  have p3 : w4.cell? ⟨w.heap.size, 3, none⟩ = some (.int .i64 A) := (blk_cell T0 3).trans rfl
  have q0 : w4.cell? ⟨w3.heap.size, 0, none⟩ = some (.int .i64 (65535 - R)) := (blk_cell T1 0).trans rfl
  have q1 : w4.cell? ⟨w3.heap.size, 1, none⟩ = some (.int .i64 (65535 - G)) := (blk_cell T1 1).trans rfl
  have q2 : w4.cell? ⟨w3.heap.size, 2, none⟩ = some (.int .i64 (65535 - B)) := (blk_cell T1 2).trans rfl
  have q3 : w4.cell? ⟨w3.heap.size, 3, none⟩ = some (.int .i64 A) := (blk_cell T1 3).trans rfl
  have f0 := blk_frozen T1 0
  have f1 := blk_frozen T1 1
  have f2 := blk_frozen T1 2
  have f3 := blk_frozen T1 3
  dsimp only
  go_wp2
  generalize hX : ((((w4.setCell ⟨w3.heap.size, 0, none⟩ (.int .i64 R)).setCell ⟨w3.heap.size, 1, none⟩ (.int .i64 G)).setCell ⟨w3.heap.size, 2, none⟩ (.int .i64 B)).setCell ⟨w3.heap.size, 3, none⟩ (.int .i64 A)) = X
  have XP : X.heap[w.heap.size]? = some (.cells #[.int .i64 R, .int .i64 G, .int .i64 B, .int .i64 A] 45 (0, 0)) := by rw [← hX]; exact blk_far (blk_far (blk_far (blk_far T0 (by show w.heap.size ≠ w3.heap.size; omega) _) (by show w.heap.size ≠ w3.heap.size; omega) _) (by show w.heap.size ≠ w3.heap.size; omega) _) (by show w.heap.size ≠ w3.heap.size; omega) _
  have XB : Below w.heap.size w X := by rw [← hX]; repeat (first | exact TB | refine below_set ?_ (by omega))
  have XZ : X.heap.size = w4.heap.size := by rw [← hX]; simp
  have XF := five X (.cells #[.int .i64 6, .int .i64 7, .int .i64 9] 3) (.cells #[.int .i64 lim0] 3) (.cells #[.int .i64 l1] 3) (.cells #[.int .i64 a0, .int .i64 b0, .int .i64 l4] 3) (.cells #[.slice (some ⟨w4.heap.size + 1, 0, none⟩) 1 1, .slice (some ⟨w4.heap.size + 1 + 1, 0, none⟩) 1 1, .slice (some ⟨w4.heap.size + 1 + 1 + 1, 0, none⟩) 3 3] 32)
  rw [XZ] at XF
  clear hX T0 T1 TB p0 p1 p2 p3 q0 q1 q2 q3 f0 f1 f2 f3 E0 E1 E2 E3 E4 E5 E6
  obtain ⟨s, hs⟩ : ∃ s, w4.heap.size = s := ⟨_, rfl⟩
  rw [hs] at XF XZ L3 ⊢
  have F : TwF s w.heap.size lim0 l1 a0 b0 l4 R G B A w _ := ⟨XF.1, XF.2.1, XF.2.2.1, XF.2.2.2.1, XF.2.2.2.2, blk_alloc (blk_alloc (blk_alloc (blk_alloc (blk_alloc XP _) _) _) _) _, by omega, by simp [XZ], by omega, below_alloc (below_alloc (below_alloc (below_alloc (below_alloc XB _) _) _) _) _⟩
  clear XF XP XB XZ L1 L2 L3 hs
  go_loopw [79] (fun a wr => (a = .int .i64 0 ∨ a = .int .i64 1 ∨ a = .int .i64 2 ∨ a = .int .i64 3) ∧ TwF s w.heap.size lim0 l1 a0 b0 l4 R G B A w wr) (fun a _ => 3 - (intOf a).toNat)
  case atStart => exact ⟨.inl rfl, F⟩
  case round =>
    clear F
    obtain ⟨hi, F⟩ := hrel
    rcases hi with rfl | rfl | rfl | rfl
    · have k0 : wr.cell? ⟨s, 0, none⟩ = some (.int .i64 6) := (blk_cell F.kinds 0).trans rfl
      have k1 : wr.cell? ⟨s, 1, none⟩ = some (.int .i64 7) := (blk_cell F.kinds 1).trans rfl
      have k2 : wr.cell? ⟨s, 2, none⟩ = some (.int .i64 9) := (blk_cell F.kinds 2).trans rfl
      have ja : wr.cell? ⟨s + 1 + 1 + 1 + 1, 0, none⟩ = some (.slice (some ⟨s + 1, 0, none⟩) 1 1) := (blk_cell F.ll 0).trans rfl
      have pa0 : wr.cell? ⟨w.heap.size, 0, none⟩ = some (.int .i64 R) := (blk_cell F.px 0).trans rfl
      have pa1 : wr.cell? ⟨w.heap.size, 1, none⟩ = some (.int .i64 G) := (blk_cell F.px 1).trans rfl
      have pa2 : wr.cell? ⟨w.heap.size, 2, none⟩ = some (.int .i64 B) := (blk_cell F.px 2).trans rfl
      have pa3 : wr.cell? ⟨w.heap.size, 3, none⟩ = some (.int .i64 A) := (blk_cell F.px 3).trans rfl
      have dja := fun o => kept (below_drew (below_alloc (Below.refl _ wr) o)) ja
      have dpa0 := fun o => kept (below_drew (below_alloc (Below.refl _ wr) o)) pa0
      have dpa1 := fun o => kept (below_drew (below_alloc (Below.refl _ wr) o)) pa1
      have dpa2 := fun o => kept (below_drew (below_alloc (Below.refl _ wr) o)) pa2
      have dpa3 := fun o => kept (below_drew (below_alloc (Below.refl _ wr) o)) pa3
      have Ba := F.big
      have Qa := blk_lt F.px
      go_wp2
      go_region_held3 (fun w' => w'.cell? ⟨s + 1 + 1 + 1 + 1, 0, none⟩ = some (.slice (some ⟨s + 1, 0, none⟩) 1 1) ∧ w'.cell? ⟨w.heap.size, 0, none⟩ = some (.int .i64 R) ∧ w'.cell? ⟨w.heap.size, 1, none⟩ = some (.int .i64 G) ∧ w'.cell? ⟨w.heap.size, 2, none⟩ = some (.int .i64 B) ∧ w'.cell? ⟨w.heap.size, 3, none⟩ = some (.int .i64 A))
        (with_reducible (refine ⟨?_, ?_, ?_, ?_, ?_⟩ <;> first | assumption | (simp only [World.cell?_drew]; assumption) | exact dja _ | exact dpa0 _ | exact dpa1 _ | exact dpa2 _ | exact dpa3 _ | exact eaa _ | exact eaa0 _ | exact eaa1 _ | exact eaa2 _ | exact eaa3 _ | (refine far4 (by first | omega | (dsimp only; omega)) ?_; assumption)))
        ((go_at_call 36; refine (H0.out s _ ?_).mono ?_; ((with_reducible repeat (first | refine TwF.drew ?_ | refine TwF.alloc ?_ _)); exact F); rintro e wA ⟨rfl, hb⟩; have FA : TwF s w.heap.size lim0 l1 a0 b0 l4 R G B A w wA := TwF.below (by (with_reducible repeat (first | refine TwF.drew ?_ | refine TwF.alloc ?_ _)); exact F) hb; have Ra : wA.heap[w.heap.size]? = some (.cells #[.int .i64 R, .int .i64 G, .int .i64 B, .int .i64 A] 45 (0, 0)) := blk_below (by (with_reducible repeat (first | refine blk_drewN ?_ _ | refine blk_drew ?_ | refine blk_alloc ?_ _)); exact F.px) hb; have aa : wA.cell? ⟨s + 1 + 1 + 1 + 1, 0, none⟩ = some (.slice (some ⟨s + 1, 0, none⟩) 1 1) := (blk_cell FA.ll 0).trans rfl; have aa0 : wA.cell? ⟨w.heap.size, 0, none⟩ = some (.int .i64 R) := (blk_cell Ra 0).trans rfl; have aa1 : wA.cell? ⟨w.heap.size, 1, none⟩ = some (.int .i64 G) := (blk_cell Ra 1).trans rfl; have aa2 : wA.cell? ⟨w.heap.size, 2, none⟩ = some (.int .i64 B) := (blk_cell Ra 2).trans rfl; have aa3 : wA.cell? ⟨w.heap.size, 3, none⟩ = some (.int .i64 A) := (blk_cell Ra 3).trans rfl; have eaa := fun o => kept (below_alloc (Below.refl _ wA) o) aa; have eaa0 := fun o => kept (below_alloc (Below.refl _ wA) o) aa0; have eaa1 := fun o => kept (below_alloc (Below.refl _ wA) o) aa1; have eaa2 := fun o => kept (below_alloc (Below.refl _ wA) o) aa2; have eaa3 := fun o => kept (below_alloc (Below.refl _ wA) o) aa3; have Da := FA.big; try (have Ta : wA.heap[wr.heap.size]? = some (.cells #[.int .i64 0, .int .i64 0, .int .i64 0, .int .i64 0] 45 (0, 0)) := blk_below (by (with_reducible repeat (first | refine blk_drewN ?_ _ | refine blk_drew ?_)); exact blk_new _ _) hb; have hza0 : wA.cell? ⟨wr.heap.size, 0, none⟩ = some (.int .i64 0) := (blk_cell Ta 0).trans rfl; have hfa0 := blk_frozen Ta 0; have hza1 : wA.cell? ⟨wr.heap.size, 1, none⟩ = some (.int .i64 0) := (blk_cell Ta 1).trans rfl; have hfa1 := blk_frozen Ta 1; have hza2 : wA.cell? ⟨wr.heap.size, 2, none⟩ = some (.int .i64 0) := (blk_cell Ta 2).trans rfl; have hfa2 := blk_frozen Ta 2; have hza3 : wA.cell? ⟨wr.heap.size, 3, none⟩ = some (.int .i64 0) := (blk_cell Ta 3).trans rfl; have hfa3 := blk_frozen Ta 3)))
      · obtain ⟨Xa, hXa⟩ : ∃ X, wA.alloc (.cells #[.int .i64 x0, .int .i64 x1, .int .i64 x2, .int .i64 A] 45) = X := ⟨_, rfl⟩
        have ga : wA.heap.size = wA.heap.size := rfl
        have Na : Xa.heap[wA.heap.size]? = some (.cells #[.int .i64 x0, .int .i64 x1, .int .i64 x2, .int .i64 A] 45 (0, 0)) := by rw [← hXa]; exact blk_new wA _
        have Oa := blk_alloc Ra (.cells #[.int .i64 x0, .int .i64 x1, .int .i64 x2, .int .i64 A] 45)
        have Ma := FA.alloc (.cells #[.int .i64 x0, .int .i64 x1, .int .i64 x2, .int .i64 A] 45)
        rw [hXa] at Oa Ma ⊢
        clear ga hXa
        clear ja pa0 pa1 pa2 pa3 dja dpa0 dpa1 dpa2 dpa3 aa aa0 aa1 aa2 aa3 eaa eaa0 eaa1 eaa2 eaa3
        clear Oa
        have jb : Xa.cell? ⟨s + 1 + 1 + 1 + 1, 0, none⟩ = some (.slice (some ⟨s + 1, 0, none⟩) 1 1) := (blk_cell Ma.ll 0).trans rfl
        have pb0 : Xa.cell? ⟨wA.heap.size, 0, none⟩ = some (.int .i64 x0) := (blk_cell Na 0).trans rfl
        have pb1 : Xa.cell? ⟨wA.heap.size, 1, none⟩ = some (.int .i64 x1) := (blk_cell Na 1).trans rfl
        have pb2 : Xa.cell? ⟨wA.heap.size, 2, none⟩ = some (.int .i64 x2) := (blk_cell Na 2).trans rfl
        have pb3 : Xa.cell? ⟨wA.heap.size, 3, none⟩ = some (.int .i64 A) := (blk_cell Na 3).trans rfl
        have djb := fun o => kept (below_drew (below_alloc (Below.refl _ Xa) o)) jb
        have dpb0 := fun o => kept (below_drew (below_alloc (Below.refl _ Xa) o)) pb0
        have dpb1 := fun o => kept (below_drew (below_alloc (Below.refl _ Xa) o)) pb1
        have dpb2 := fun o => kept (below_drew (below_alloc (Below.refl _ Xa) o)) pb2
        have dpb3 := fun o => kept (below_drew (below_alloc (Below.refl _ Xa) o)) pb3
        have Bb := Ma.big
        have Qb := blk_lt Na
        go_wp2
        go_region_held3 (fun w' => w'.cell? ⟨s + 1 + 1 + 1 + 1, 0, none⟩ = some (.slice (some ⟨s + 1, 0, none⟩) 1 1) ∧ w'.cell? ⟨wA.heap.size, 0, none⟩ = some (.int .i64 x0) ∧ w'.cell? ⟨wA.heap.size, 1, none⟩ = some (.int .i64 x1) ∧ w'.cell? ⟨wA.heap.size, 2, none⟩ = some (.int .i64 x2) ∧ w'.cell? ⟨wA.heap.size, 3, none⟩ = some (.int .i64 A))
          (with_reducible (refine ⟨?_, ?_, ?_, ?_, ?_⟩ <;> first | assumption | (simp only [World.cell?_drew]; assumption) | exact djb _ | exact dpb0 _ | exact dpb1 _ | exact dpb2 _ | exact dpb3 _ | exact eab _ | exact eab0 _ | exact eab1 _ | exact eab2 _ | exact eab3 _ | (refine far4 (by first | omega | (dsimp only; omega)) ?_; assumption)))
          ((go_at_call 36; refine (G0.out s _ ?_).mono ?_; ((with_reducible repeat (first | refine TwF.drew ?_ | refine TwF.alloc ?_ _)); exact Ma); rintro e wC ⟨rfl, hb⟩; have FC : TwF s w.heap.size lim0 l1 a0 b0 l4 R G B A w wC := TwF.below (by (with_reducible repeat (first | refine TwF.drew ?_ | refine TwF.alloc ?_ _)); exact Ma) hb; have Rb : wC.heap[wA.heap.size]? = some (.cells #[.int .i64 x0, .int .i64 x1, .int .i64 x2, .int .i64 A] 45 (0, 0)) := blk_below (by (with_reducible repeat (first | refine blk_drewN ?_ _ | refine blk_drew ?_ | refine blk_alloc ?_ _)); exact Na) hb; have ab : wC.cell? ⟨s + 1 + 1 + 1 + 1, 0, none⟩ = some (.slice (some ⟨s + 1, 0, none⟩) 1 1) := (blk_cell FC.ll 0).trans rfl; have ab0 : wC.cell? ⟨wA.heap.size, 0, none⟩ = some (.int .i64 x0) := (blk_cell Rb 0).trans rfl; have ab1 : wC.cell? ⟨wA.heap.size, 1, none⟩ = some (.int .i64 x1) := (blk_cell Rb 1).trans rfl; have ab2 : wC.cell? ⟨wA.heap.size, 2, none⟩ = some (.int .i64 x2) := (blk_cell Rb 2).trans rfl; have ab3 : wC.cell? ⟨wA.heap.size, 3, none⟩ = some (.int .i64 A) := (blk_cell Rb 3).trans rfl; have eab := fun o => kept (below_alloc (Below.refl _ wC) o) ab; have eab0 := fun o => kept (below_alloc (Below.refl _ wC) o) ab0; have eab1 := fun o => kept (below_alloc (Below.refl _ wC) o) ab1; have eab2 := fun o => kept (below_alloc (Below.refl _ wC) o) ab2; have eab3 := fun o => kept (below_alloc (Below.refl _ wC) o) ab3; have Db := FC.big; try (have Tb : wC.heap[Xa.heap.size]? = some (.cells #[.int .i64 0, .int .i64 0, .int .i64 0, .int .i64 0] 45 (0, 0)) := blk_below (by (with_reducible repeat (first | refine blk_drewN ?_ _ | refine blk_drew ?_)); exact blk_new _ _) hb; have hzb0 : wC.cell? ⟨Xa.heap.size, 0, none⟩ = some (.int .i64 0) := (blk_cell Tb 0).trans rfl; have hfb0 := blk_frozen Tb 0; have hzb1 : wC.cell? ⟨Xa.heap.size, 1, none⟩ = some (.int .i64 0) := (blk_cell Tb 1).trans rfl; have hfb1 := blk_frozen Tb 1; have hzb2 : wC.cell? ⟨Xa.heap.size, 2, none⟩ = some (.int .i64 0) := (blk_cell Tb 2).trans rfl; have hfb2 := blk_frozen Tb 2; have hzb3 : wC.cell? ⟨Xa.heap.size, 3, none⟩ = some (.int .i64 0) := (blk_cell Tb 3).trans rfl; have hfb3 := blk_frozen Tb 3)))
        · obtain ⟨Xb, hXb⟩ : ∃ X, wC.alloc (.cells #[.int .i64 x0, .int .i64 x1, .int .i64 x2, .int .i64 A] 45) = X := ⟨_, rfl⟩
          have gb : wC.heap.size = wC.heap.size := rfl
          have Nb : Xb.heap[wC.heap.size]? = some (.cells #[.int .i64 x0, .int .i64 x1, .int .i64 x2, .int .i64 A] 45 (0, 0)) := by rw [← hXb]; exact blk_new wC _
          have Ob := blk_alloc Rb (.cells #[.int .i64 x0, .int .i64 x1, .int .i64 x2, .int .i64 A] 45)
          have Mb := FC.alloc (.cells #[.int .i64 x0, .int .i64 x1, .int .i64 x2, .int .i64 A] 45)
          rw [hXb] at Ob Mb ⊢
          clear gb hXb
          clear jb pb0 pb1 pb2 pb3 djb dpb0 dpb1 dpb2 dpb3 ab ab0 ab1 ab2 ab3 eab eab0 eab1 eab2 eab3
          have u0 : Xb.cell? ⟨wA.heap.size, 0, none⟩ = some (.int .i64 x0) := (blk_cell Ob 0).trans rfl
          have u1 : Xb.cell? ⟨wA.heap.size, 1, none⟩ = some (.int .i64 x1) := (blk_cell Ob 1).trans rfl
          have u2 : Xb.cell? ⟨wA.heap.size, 2, none⟩ = some (.int .i64 x2) := (blk_cell Ob 2).trans rfl
          have u3 : Xb.cell? ⟨wA.heap.size, 3, none⟩ = some (.int .i64 A) := (blk_cell Ob 3).trans rfl
          have v0 : Xb.cell? ⟨wC.heap.size, 0, none⟩ = some (.int .i64 x0) := (blk_cell Nb 0).trans rfl
          have v1 : Xb.cell? ⟨wC.heap.size, 1, none⟩ = some (.int .i64 x1) := (blk_cell Nb 1).trans rfl
          have v2 : Xb.cell? ⟨wC.heap.size, 2, none⟩ = some (.int .i64 x2) := (blk_cell Nb 2).trans rfl
          have v3 : Xb.cell? ⟨wC.heap.size, 3, none⟩ = some (.int .i64 A) := (blk_cell Nb 3).trans rfl
          clear Nb Ob
          go_wp2
          go_roundw
          case rel => exact ⟨.inr (.inl rfl), Mb⟩
          case measure => simp [intOf]
        · generalize hXb : ((((wC.setCell ⟨Xa.heap.size, 0, none⟩ (.int .i64 x0)).setCell ⟨Xa.heap.size, 1, none⟩ (.int .i64 x1)).setCell ⟨Xa.heap.size, 2, none⟩ (.int .i64 x2)).setCell ⟨Xa.heap.size, 3, none⟩ (.int .i64 A)) = Xb
          have Nb : Xb.heap[Xa.heap.size]? = some (.cells #[.int .i64 x0, .int .i64 x1, .int .i64 x2, .int .i64 A] 45 (0, 0)) := by rw [← hXb]; exact blk_put (blk_put (blk_put (blk_put Tb 0 _ rfl) 1 _ rfl) 2 _ rfl) 3 _ rfl
          have Ob : Xb.heap[wA.heap.size]? = some (.cells #[.int .i64 x0, .int .i64 x1, .int .i64 x2, .int .i64 A] 45 (0, 0)) := by rw [← hXb]; exact blk_far (blk_far (blk_far (blk_far Rb (by show wA.heap.size ≠ Xa.heap.size; omega) _) (by show wA.heap.size ≠ Xa.heap.size; omega) _) (by show wA.heap.size ≠ Xa.heap.size; omega) _) (by show wA.heap.size ≠ Xa.heap.size; omega) _
          have Mb : TwF s w.heap.size lim0 l1 a0 b0 l4 R G B A w Xb := by rw [← hXb]; exact (((FC.set _ 0 _ Bb).set _ 1 _ Bb).set _ 2 _ Bb).set _ 3 _ Bb
          clear hXb Tb hzb0 hfb0 hzb1 hfb1 hzb2 hfb2 hzb3 hfb3
          clear jb pb0 pb1 pb2 pb3 djb dpb0 dpb1 dpb2 dpb3 ab ab0 ab1 ab2 ab3 eab eab0 eab1 eab2 eab3
          have u0 : Xb.cell? ⟨wA.heap.size, 0, none⟩ = some (.int .i64 x0) := (blk_cell Ob 0).trans rfl
          have u1 : Xb.cell? ⟨wA.heap.size, 1, none⟩ = some (.int .i64 x1) := (blk_cell Ob 1).trans rfl
          have u2 : Xb.cell? ⟨wA.heap.size, 2, none⟩ = some (.int .i64 x2) := (blk_cell Ob 2).trans rfl
          have u3 : Xb.cell? ⟨wA.heap.size, 3, none⟩ = some (.int .i64 A) := (blk_cell Ob 3).trans rfl
          have v0 : Xb.cell? ⟨Xa.heap.size, 0, none⟩ = some (.int .i64 x0) := (blk_cell Nb 0).trans rfl
          have v1 : Xb.cell? ⟨Xa.heap.size, 1, none⟩ = some (.int .i64 x1) := (blk_cell Nb 1).trans rfl
          have v2 : Xb.cell? ⟨Xa.heap.size, 2, none⟩ = some (.int .i64 x2) := (blk_cell Nb 2).trans rfl
          have v3 : Xb.cell? ⟨Xa.heap.size, 3, none⟩ = some (.int .i64 A) := (blk_cell Nb 3).trans rfl
          clear Nb Ob
          go_wp2
          go_roundw
          case rel => exact ⟨.inr (.inl rfl), Mb⟩
          case measure => simp [intOf]
      · generalize hXa : ((((wA.setCell ⟨wr.heap.size, 0, none⟩ (.int .i64 x0)).setCell ⟨wr.heap.size, 1, none⟩ (.int .i64 x1)).setCell ⟨wr.heap.size, 2, none⟩ (.int .i64 x2)).setCell ⟨wr.heap.size, 3, none⟩ (.int .i64 A)) = Xa
        have Na : Xa.heap[wr.heap.size]? = some (.cells #[.int .i64 x0, .int .i64 x1, .int .i64 x2, .int .i64 A] 45 (0, 0)) := by rw [← hXa]; exact blk_put (blk_put (blk_put (blk_put Ta 0 _ rfl) 1 _ rfl) 2 _ rfl) 3 _ rfl
        have Oa : Xa.heap[w.heap.size]? = some (.cells #[.int .i64 R, .int .i64 G, .int .i64 B, .int .i64 A] 45 (0, 0)) := by rw [← hXa]; exact blk_far (blk_far (blk_far (blk_far Ra (by show w.heap.size ≠ wr.heap.size; omega) _) (by show w.heap.size ≠ wr.heap.size; omega) _) (by show w.heap.size ≠ wr.heap.size; omega) _) (by show w.heap.size ≠ wr.heap.size; omega) _
        have Ma : TwF s w.heap.size lim0 l1 a0 b0 l4 R G B A w Xa := by rw [← hXa]; exact (((FA.set _ 0 _ Ba).set _ 1 _ Ba).set _ 2 _ Ba).set _ 3 _ Ba
        clear hXa Ta hza0 hfa0 hza1 hfa1 hza2 hfa2 hza3 hfa3
        clear ja pa0 pa1 pa2 pa3 dja dpa0 dpa1 dpa2 dpa3 aa aa0 aa1 aa2 aa3 eaa eaa0 eaa1 eaa2 eaa3
        clear Oa
        have jb : Xa.cell? ⟨s + 1 + 1 + 1 + 1, 0, none⟩ = some (.slice (some ⟨s + 1, 0, none⟩) 1 1) := (blk_cell Ma.ll 0).trans rfl
        have pb0 : Xa.cell? ⟨wr.heap.size, 0, none⟩ = some (.int .i64 x0) := (blk_cell Na 0).trans rfl
        have pb1 : Xa.cell? ⟨wr.heap.size, 1, none⟩ = some (.int .i64 x1) := (blk_cell Na 1).trans rfl
        have pb2 : Xa.cell? ⟨wr.heap.size, 2, none⟩ = some (.int .i64 x2) := (blk_cell Na 2).trans rfl
        have pb3 : Xa.cell? ⟨wr.heap.size, 3, none⟩ = some (.int .i64 A) := (blk_cell Na 3).trans rfl
        have djb := fun o => kept (below_drew (below_alloc (Below.refl _ Xa) o)) jb
        have dpb0 := fun o => kept (below_drew (below_alloc (Below.refl _ Xa) o)) pb0
        have dpb1 := fun o => kept (below_drew (below_alloc (Below.refl _ Xa) o)) pb1
        have dpb2 := fun o => kept (below_drew (below_alloc (Below.refl _ Xa) o)) pb2
        have dpb3 := fun o => kept (below_drew (below_alloc (Below.refl _ Xa) o)) pb3
        have Bb := Ma.big
        have Qb := blk_lt Na
        go_wp2
        go_region_held3 (fun w' => w'.cell? ⟨s + 1 + 1 + 1 + 1, 0, none⟩ = some (.slice (some ⟨s + 1, 0, none⟩) 1 1) ∧ w'.cell? ⟨wr.heap.size, 0, none⟩ = some (.int .i64 x0) ∧ w'.cell? ⟨wr.heap.size, 1, none⟩ = some (.int .i64 x1) ∧ w'.cell? ⟨wr.heap.size, 2, none⟩ = some (.int .i64 x2) ∧ w'.cell? ⟨wr.heap.size, 3, none⟩ = some (.int .i64 A))
          (with_reducible (refine ⟨?_, ?_, ?_, ?_, ?_⟩ <;> first | assumption | (simp only [World.cell?_drew]; assumption) | exact djb _ | exact dpb0 _ | exact dpb1 _ | exact dpb2 _ | exact dpb3 _ | exact eab _ | exact eab0 _ | exact eab1 _ | exact eab2 _ | exact eab3 _ | (refine far4 (by first | omega | (dsimp only; omega)) ?_; assumption)))
          ((go_at_call 36; refine (G0.out s _ ?_).mono ?_; ((with_reducible repeat (first | refine TwF.drew ?_ | refine TwF.alloc ?_ _)); exact Ma); rintro e wC ⟨rfl, hb⟩; have FC : TwF s w.heap.size lim0 l1 a0 b0 l4 R G B A w wC := TwF.below (by (with_reducible repeat (first | refine TwF.drew ?_ | refine TwF.alloc ?_ _)); exact Ma) hb; have Rb : wC.heap[wr.heap.size]? = some (.cells #[.int .i64 x0, .int .i64 x1, .int .i64 x2, .int .i64 A] 45 (0, 0)) := blk_below (by (with_reducible repeat (first | refine blk_drewN ?_ _ | refine blk_drew ?_ | refine blk_alloc ?_ _)); exact Na) hb; have ab : wC.cell? ⟨s + 1 + 1 + 1 + 1, 0, none⟩ = some (.slice (some ⟨s + 1, 0, none⟩) 1 1) := (blk_cell FC.ll 0).trans rfl; have ab0 : wC.cell? ⟨wr.heap.size, 0, none⟩ = some (.int .i64 x0) := (blk_cell Rb 0).trans rfl; have ab1 : wC.cell? ⟨wr.heap.size, 1, none⟩ = some (.int .i64 x1) := (blk_cell Rb 1).trans rfl; have ab2 : wC.cell? ⟨wr.heap.size, 2, none⟩ = some (.int .i64 x2) := (blk_cell Rb 2).trans rfl; have ab3 : wC.cell? ⟨wr.heap.size, 3, none⟩ = some (.int .i64 A) := (blk_cell Rb 3).trans rfl; have eab := fun o => kept (below_alloc (Below.refl _ wC) o) ab; have eab0 := fun o => kept (below_alloc (Below.refl _ wC) o) ab0; have eab1 := fun o => kept (below_alloc (Below.refl _ wC) o) ab1; have eab2 := fun o => kept (below_alloc (Below.refl _ wC) o) ab2; have eab3 := fun o => kept (below_alloc (Below.refl _ wC) o) ab3; have Db := FC.big; try (have Tb : wC.heap[Xa.heap.size]? = some (.cells #[.int .i64 0, .int .i64 0, .int .i64 0, .int .i64 0] 45 (0, 0)) := blk_below (by (with_reducible repeat (first | refine blk_drewN ?_ _ | refine blk_drew ?_)); exact blk_new _ _) hb; have hzb0 : wC.cell? ⟨Xa.heap.size, 0, none⟩ = some (.int .i64 0) := (blk_cell Tb 0).trans rfl; have hfb0 := blk_frozen Tb 0; have hzb1 : wC.cell? ⟨Xa.heap.size, 1, none⟩ = some (.int .i64 0) := (blk_cell Tb 1).trans rfl; have hfb1 := blk_frozen Tb 1; have hzb2 : wC.cell? ⟨Xa.heap.size, 2, none⟩ = some (.int .i64 0) := (blk_cell Tb 2).trans rfl; have hfb2 := blk_frozen Tb 2; have hzb3 : wC.cell? ⟨Xa.heap.size, 3, none⟩ = some (.int .i64 0) := (blk_cell Tb 3).trans rfl; have hfb3 := blk_frozen Tb 3)))
        · obtain ⟨Xb, hXb⟩ : ∃ X, wC.alloc (.cells #[.int .i64 x0, .int .i64 x1, .int .i64 x2, .int .i64 A] 45) = X := ⟨_, rfl⟩
          have gb : wC.heap.size = wC.heap.size := rfl
          have Nb : Xb.heap[wC.heap.size]? = some (.cells #[.int .i64 x0, .int .i64 x1, .int .i64 x2, .int .i64 A] 45 (0, 0)) := by rw [← hXb]; exact blk_new wC _
          have Ob := blk_alloc Rb (.cells #[.int .i64 x0, .int .i64 x1, .int .i64 x2, .int .i64 A] 45)
          have Mb := FC.alloc (.cells #[.int .i64 x0, .int .i64 x1, .int .i64 x2, .int .i64 A] 45)
          rw [hXb] at Ob Mb ⊢
          clear gb hXb
          clear jb pb0 pb1 pb2 pb3 djb dpb0 dpb1 dpb2 dpb3 ab ab0 ab1 ab2 ab3 eab eab0 eab1 eab2 eab3
          have u0 : Xb.cell? ⟨wr.heap.size, 0, none⟩ = some (.int .i64 x0) := (blk_cell Ob 0).trans rfl
          have u1 : Xb.cell? ⟨wr.heap.size, 1, none⟩ = some (.int .i64 x1) := (blk_cell Ob 1).trans rfl
          have u2 : Xb.cell? ⟨wr.heap.size, 2, none⟩ = some (.int .i64 x2) := (blk_cell Ob 2).trans rfl
          have u3 : Xb.cell? ⟨wr.heap.size, 3, none⟩ = some (.int .i64 A) := (blk_cell Ob 3).trans rfl
          have v0 : Xb.cell? ⟨wC.heap.size, 0, none⟩ = some (.int .i64 x0) := (blk_cell Nb 0).trans rfl
          have v1 : Xb.cell? ⟨wC.heap.size, 1, none⟩ = some (.int .i64 x1) := (blk_cell Nb 1).trans rfl
          have v2 : Xb.cell? ⟨wC.heap.size, 2, none⟩ = some (.int .i64 x2) := (blk_cell Nb 2).trans rfl
          have v3 : Xb.cell? ⟨wC.heap.size, 3, none⟩ = some (.int .i64 A) := (blk_cell Nb 3).trans rfl
          clear Nb Ob
          go_wp2
          go_roundw
          case rel => exact ⟨.inr (.inl rfl), Mb⟩
          case measure => simp [intOf]
        · generalize hXb : ((((wC.setCell ⟨Xa.heap.size, 0, none⟩ (.int .i64 x0)).setCell ⟨Xa.heap.size, 1, none⟩ (.int .i64 x1)).setCell ⟨Xa.heap.size, 2, none⟩ (.int .i64 x2)).setCell ⟨Xa.heap.size, 3, none⟩ (.int .i64 A)) = Xb
          have Nb : Xb.heap[Xa.heap.size]? = some (.cells #[.int .i64 x0, .int .i64 x1, .int .i64 x2, .int .i64 A] 45 (0, 0)) := by rw [← hXb]; exact blk_put (blk_put (blk_put (blk_put Tb 0 _ rfl) 1 _ rfl) 2 _ rfl) 3 _ rfl
          have Ob : Xb.heap[wr.heap.size]? = some (.cells #[.int .i64 x0, .int .i64 x1, .int .i64 x2, .int .i64 A] 45 (0, 0)) := by rw [← hXb]; exact blk_far (blk_far (blk_far (blk_far Rb (by show wr.heap.size ≠ Xa.heap.size; omega) _) (by show wr.heap.size ≠ Xa.heap.size; omega) _) (by show wr.heap.size ≠ Xa.heap.size; omega) _) (by show wr.heap.size ≠ Xa.heap.size; omega) _
          have Mb : TwF s w.heap.size lim0 l1 a0 b0 l4 R G B A w Xb := by rw [← hXb]; exact (((FC.set _ 0 _ Bb).set _ 1 _ Bb).set _ 2 _ Bb).set _ 3 _ Bb
          clear hXb Tb hzb0 hfb0 hzb1 hfb1 hzb2 hfb2 hzb3 hfb3
          clear jb pb0 pb1 pb2 pb3 djb dpb0 dpb1 dpb2 dpb3 ab ab0 ab1 ab2 ab3 eab eab0 eab1 eab2 eab3
          have u0 : Xb.cell? ⟨wr.heap.size, 0, none⟩ = some (.int .i64 x0) := (blk_cell Ob 0).trans rfl
          have u1 : Xb.cell? ⟨wr.heap.size, 1, none⟩ = some (.int .i64 x1) := (blk_cell Ob 1).trans rfl
          have u2 : Xb.cell? ⟨wr.heap.size, 2, none⟩ = some (.int .i64 x2) := (blk_cell Ob 2).trans rfl
          have u3 : Xb.cell? ⟨wr.heap.size, 3, none⟩ = some (.int .i64 A) := (blk_cell Ob 3).trans rfl
          have v0 : Xb.cell? ⟨Xa.heap.size, 0, none⟩ = some (.int .i64 x0) := (blk_cell Nb 0).trans rfl
          have v1 : Xb.cell? ⟨Xa.heap.size, 1, none⟩ = some (.int .i64 x1) := (blk_cell Nb 1).trans rfl
          have v2 : Xb.cell? ⟨Xa.heap.size, 2, none⟩ = some (.int .i64 x2) := (blk_cell Nb 2).trans rfl
          have v3 : Xb.cell? ⟨Xa.heap.size, 3, none⟩ = some (.int .i64 A) := (blk_cell Nb 3).trans rfl
          clear Nb Ob
          go_wp2
          go_roundw
          case rel => exact ⟨.inr (.inl rfl), Mb⟩
          case measure => simp [intOf]
    · have k0 : wr.cell? ⟨s, 0, none⟩ = some (.int .i64 6) := (blk_cell F.kinds 0).trans rfl
      have k1 : wr.cell? ⟨s, 1, none⟩ = some (.int .i64 7) := (blk_cell F.kinds 1).trans rfl
      have k2 : wr.cell? ⟨s, 2, none⟩ = some (.int .i64 9) := (blk_cell F.kinds 2).trans rfl
      have ja : wr.cell? ⟨s + 1 + 1 + 1 + 1, 1, none⟩ = some (.slice (some ⟨s + 1 + 1, 0, none⟩) 1 1) := (blk_cell F.ll 1).trans rfl
      have pa0 : wr.cell? ⟨w.heap.size, 0, none⟩ = some (.int .i64 R) := (blk_cell F.px 0).trans rfl
      have pa1 : wr.cell? ⟨w.heap.size, 1, none⟩ = some (.int .i64 G) := (blk_cell F.px 1).trans rfl
      have pa2 : wr.cell? ⟨w.heap.size, 2, none⟩ = some (.int .i64 B) := (blk_cell F.px 2).trans rfl
      have pa3 : wr.cell? ⟨w.heap.size, 3, none⟩ = some (.int .i64 A) := (blk_cell F.px 3).trans rfl
      have dja := fun o => kept (below_drew (below_alloc (Below.refl _ wr) o)) ja
      have dpa0 := fun o => kept (below_drew (below_alloc (Below.refl _ wr) o)) pa0
      have dpa1 := fun o => kept (below_drew (below_alloc (Below.refl _ wr) o)) pa1
      have dpa2 := fun o => kept (below_drew (below_alloc (Below.refl _ wr) o)) pa2
      have dpa3 := fun o => kept (below_drew (below_alloc (Below.refl _ wr) o)) pa3
      have Ba := F.big
      have Qa := blk_lt F.px
      go_wp2
      go_region_held3 (fun w' => w'.cell? ⟨s + 1 + 1 + 1 + 1, 1, none⟩ = some (.slice (some ⟨s + 1 + 1, 0, none⟩) 1 1) ∧ w'.cell? ⟨w.heap.size, 0, none⟩ = some (.int .i64 R) ∧ w'.cell? ⟨w.heap.size, 1, none⟩ = some (.int .i64 G) ∧ w'.cell? ⟨w.heap.size, 2, none⟩ = some (.int .i64 B) ∧ w'.cell? ⟨w.heap.size, 3, none⟩ = some (.int .i64 A))
        (with_reducible (refine ⟨?_, ?_, ?_, ?_, ?_⟩ <;> first | assumption | (simp only [World.cell?_drew]; assumption) | exact dja _ | exact dpa0 _ | exact dpa1 _ | exact dpa2 _ | exact dpa3 _ | exact eaa _ | exact eaa0 _ | exact eaa1 _ | exact eaa2 _ | exact eaa3 _ | (refine far4 (by first | omega | (dsimp only; omega)) ?_; assumption)))
        ((go_at_call 36; refine (H1.out s _ ?_).mono ?_; ((with_reducible repeat (first | refine TwF.drew ?_ | refine TwF.alloc ?_ _)); exact F); rintro e wA ⟨rfl, hb⟩; have FA : TwF s w.heap.size lim0 l1 a0 b0 l4 R G B A w wA := TwF.below (by (with_reducible repeat (first | refine TwF.drew ?_ | refine TwF.alloc ?_ _)); exact F) hb; have Ra : wA.heap[w.heap.size]? = some (.cells #[.int .i64 R, .int .i64 G, .int .i64 B, .int .i64 A] 45 (0, 0)) := blk_below (by (with_reducible repeat (first | refine blk_drewN ?_ _ | refine blk_drew ?_ | refine blk_alloc ?_ _)); exact F.px) hb; have aa : wA.cell? ⟨s + 1 + 1 + 1 + 1, 1, none⟩ = some (.slice (some ⟨s + 1 + 1, 0, none⟩) 1 1) := (blk_cell FA.ll 1).trans rfl; have aa0 : wA.cell? ⟨w.heap.size, 0, none⟩ = some (.int .i64 R) := (blk_cell Ra 0).trans rfl; have aa1 : wA.cell? ⟨w.heap.size, 1, none⟩ = some (.int .i64 G) := (blk_cell Ra 1).trans rfl; have aa2 : wA.cell? ⟨w.heap.size, 2, none⟩ = some (.int .i64 B) := (blk_cell Ra 2).trans rfl; have aa3 : wA.cell? ⟨w.heap.size, 3, none⟩ = some (.int .i64 A) := (blk_cell Ra 3).trans rfl; have eaa := fun o => kept (below_alloc (Below.refl _ wA) o) aa; have eaa0 := fun o => kept (below_alloc (Below.refl _ wA) o) aa0; have eaa1 := fun o => kept (below_alloc (Below.refl _ wA) o) aa1; have eaa2 := fun o => kept (below_alloc (Below.refl _ wA) o) aa2; have eaa3 := fun o => kept (below_alloc (Below.refl _ wA) o) aa3; have Da := FA.big; try (have Ta : wA.heap[wr.heap.size]? = some (.cells #[.int .i64 0, .int .i64 0, .int .i64 0, .int .i64 0] 45 (0, 0)) := blk_below (by (with_reducible repeat (first | refine blk_drewN ?_ _ | refine blk_drew ?_)); exact blk_new _ _) hb; have hza0 : wA.cell? ⟨wr.heap.size, 0, none⟩ = some (.int .i64 0) := (blk_cell Ta 0).trans rfl; have hfa0 := blk_frozen Ta 0; have hza1 : wA.cell? ⟨wr.heap.size, 1, none⟩ = some (.int .i64 0) := (blk_cell Ta 1).trans rfl; have hfa1 := blk_frozen Ta 1; have hza2 : wA.cell? ⟨wr.heap.size, 2, none⟩ = some (.int .i64 0) := (blk_cell Ta 2).trans rfl; have hfa2 := blk_frozen Ta 2; have hza3 : wA.cell? ⟨wr.heap.size, 3, none⟩ = some (.int .i64 0) := (blk_cell Ta 3).trans rfl; have hfa3 := blk_frozen Ta 3)))
      · obtain ⟨Xa, hXa⟩ : ∃ X, wA.alloc (.cells #[.int .i64 y0, .int .i64 y1, .int .i64 y2, .int .i64 A] 45) = X := ⟨_, rfl⟩
        have ga : wA.heap.size = wA.heap.size := rfl
        have Na : Xa.heap[wA.heap.size]? = some (.cells #[.int .i64 y0, .int .i64 y1, .int .i64 y2, .int .i64 A] 45 (0, 0)) := by rw [← hXa]; exact blk_new wA _
        have Oa := blk_alloc Ra (.cells #[.int .i64 y0, .int .i64 y1, .int .i64 y2, .int .i64 A] 45)
        have Ma := FA.alloc (.cells #[.int .i64 y0, .int .i64 y1, .int .i64 y2, .int .i64 A] 45)
        rw [hXa] at Oa Ma ⊢
        clear ga hXa
        clear ja pa0 pa1 pa2 pa3 dja dpa0 dpa1 dpa2 dpa3 aa aa0 aa1 aa2 aa3 eaa eaa0 eaa1 eaa2 eaa3
        clear Oa
        have jb : Xa.cell? ⟨s + 1 + 1 + 1 + 1, 1, none⟩ = some (.slice (some ⟨s + 1 + 1, 0, none⟩) 1 1) := (blk_cell Ma.ll 1).trans rfl
        have pb0 : Xa.cell? ⟨wA.heap.size, 0, none⟩ = some (.int .i64 y0) := (blk_cell Na 0).trans rfl
        have pb1 : Xa.cell? ⟨wA.heap.size, 1, none⟩ = some (.int .i64 y1) := (blk_cell Na 1).trans rfl
        have pb2 : Xa.cell? ⟨wA.heap.size, 2, none⟩ = some (.int .i64 y2) := (blk_cell Na 2).trans rfl
        have pb3 : Xa.cell? ⟨wA.heap.size, 3, none⟩ = some (.int .i64 A) := (blk_cell Na 3).trans rfl
        have djb := fun o => kept (below_drew (below_alloc (Below.refl _ Xa) o)) jb
        have dpb0 := fun o => kept (below_drew (below_alloc (Below.refl _ Xa) o)) pb0
        have dpb1 := fun o => kept (below_drew (below_alloc (Below.refl _ Xa) o)) pb1
        have dpb2 := fun o => kept (below_drew (below_alloc (Below.refl _ Xa) o)) pb2
        have dpb3 := fun o => kept (below_drew (below_alloc (Below.refl _ Xa) o)) pb3
        have Bb := Ma.big
        have Qb := blk_lt Na
        go_wp2
        go_region_held3 (fun w' => w'.cell? ⟨s + 1 + 1 + 1 + 1, 1, none⟩ = some (.slice (some ⟨s + 1 + 1, 0, none⟩) 1 1) ∧ w'.cell? ⟨wA.heap.size, 0, none⟩ = some (.int .i64 y0) ∧ w'.cell? ⟨wA.heap.size, 1, none⟩ = some (.int .i64 y1) ∧ w'.cell? ⟨wA.heap.size, 2, none⟩ = some (.int .i64 y2) ∧ w'.cell? ⟨wA.heap.size, 3, none⟩ = some (.int .i64 A))
          (with_reducible (refine ⟨?_, ?_, ?_, ?_, ?_⟩ <;> first | assumption | (simp only [World.cell?_drew]; assumption) | exact djb _ | exact dpb0 _ | exact dpb1 _ | exact dpb2 _ | exact dpb3 _ | exact eab _ | exact eab0 _ | exact eab1 _ | exact eab2 _ | exact eab3 _ | (refine far4 (by first | omega | (dsimp only; omega)) ?_; assumption)))
          ((go_at_call 36; refine (G1.out s _ ?_).mono ?_; ((with_reducible repeat (first | refine TwF.drew ?_ | refine TwF.alloc ?_ _)); exact Ma); rintro e wC ⟨rfl, hb⟩; have FC : TwF s w.heap.size lim0 l1 a0 b0 l4 R G B A w wC := TwF.below (by (with_reducible repeat (first | refine TwF.drew ?_ | refine TwF.alloc ?_ _)); exact Ma) hb; have Rb : wC.heap[wA.heap.size]? = some (.cells #[.int .i64 y0, .int .i64 y1, .int .i64 y2, .int .i64 A] 45 (0, 0)) := blk_below (by (with_reducible repeat (first | refine blk_drewN ?_ _ | refine blk_drew ?_ | refine blk_alloc ?_ _)); exact Na) hb; have ab : wC.cell? ⟨s + 1 + 1 + 1 + 1, 1, none⟩ = some (.slice (some ⟨s + 1 + 1, 0, none⟩) 1 1) := (blk_cell FC.ll 1).trans rfl; have ab0 : wC.cell? ⟨wA.heap.size, 0, none⟩ = some (.int .i64 y0) := (blk_cell Rb 0).trans rfl; have ab1 : wC.cell? ⟨wA.heap.size, 1, none⟩ = some (.int .i64 y1) := (blk_cell Rb 1).trans rfl; have ab2 : wC.cell? ⟨wA.heap.size, 2, none⟩ = some (.int .i64 y2) := (blk_cell Rb 2).trans rfl; have ab3 : wC.cell? ⟨wA.heap.size, 3, none⟩ = some (.int .i64 A) := (blk_cell Rb 3).trans rfl; have eab := fun o => kept (below_alloc (Below.refl _ wC) o) ab; have eab0 := fun o => kept (below_alloc (Below.refl _ wC) o) ab0; have eab1 := fun o => kept (below_alloc (Below.refl _ wC) o) ab1; have eab2 := fun o => kept (below_alloc (Below.refl _ wC) o) ab2; have eab3 := fun o => kept (below_alloc (Below.refl _ wC) o) ab3; have Db := FC.big; try (have Tb : wC.heap[Xa.heap.size]? = some (.cells #[.int .i64 0, .int .i64 0, .int .i64 0, .int .i64 0] 45 (0, 0)) := blk_below (by (with_reducible repeat (first | refine blk_drewN ?_ _ | refine blk_drew ?_)); exact blk_new _ _) hb; have hzb0 : wC.cell? ⟨Xa.heap.size, 0, none⟩ = some (.int .i64 0) := (blk_cell Tb 0).trans rfl; have hfb0 := blk_frozen Tb 0; have hzb1 : wC.cell? ⟨Xa.heap.size, 1, none⟩ = some (.int .i64 0) := (blk_cell Tb 1).trans rfl; have hfb1 := blk_frozen Tb 1; have hzb2 : wC.cell? ⟨Xa.heap.size, 2, none⟩ = some (.int .i64 0) := (blk_cell Tb 2).trans rfl; have hfb2 := blk_frozen Tb 2; have hzb3 : wC.cell? ⟨Xa.heap.size, 3, none⟩ = some (.int .i64 0) := (blk_cell Tb 3).trans rfl; have hfb3 := blk_frozen Tb 3)))
        · obtain ⟨Xb, hXb⟩ : ∃ X, wC.alloc (.cells #[.int .i64 y0, .int .i64 y1, .int .i64 y2, .int .i64 A] 45) = X := ⟨_, rfl⟩
          have gb : wC.heap.size = wC.heap.size := rfl
          have Nb : Xb.heap[wC.heap.size]? = some (.cells #[.int .i64 y0, .int .i64 y1, .int .i64 y2, .int .i64 A] 45 (0, 0)) := by rw [← hXb]; exact blk_new wC _
          have Ob := blk_alloc Rb (.cells #[.int .i64 y0, .int .i64 y1, .int .i64 y2, .int .i64 A] 45)
          have Mb := FC.alloc (.cells #[.int .i64 y0, .int .i64 y1, .int .i64 y2, .int .i64 A] 45)
          rw [hXb] at Ob Mb ⊢
          clear gb hXb
          clear jb pb0 pb1 pb2 pb3 djb dpb0 dpb1 dpb2 dpb3 ab ab0 ab1 ab2 ab3 eab eab0 eab1 eab2 eab3
          have u0 : Xb.cell? ⟨wA.heap.size, 0, none⟩ = some (.int .i64 y0) := (blk_cell Ob 0).trans rfl
          have u1 : Xb.cell? ⟨wA.heap.size, 1, none⟩ = some (.int .i64 y1) := (blk_cell Ob 1).trans rfl
          have u2 : Xb.cell? ⟨wA.heap.size, 2, none⟩ = some (.int .i64 y2) := (blk_cell Ob 2).trans rfl
          have u3 : Xb.cell? ⟨wA.heap.size, 3, none⟩ = some (.int .i64 A) := (blk_cell Ob 3).trans rfl
          have v0 : Xb.cell? ⟨wC.heap.size, 0, none⟩ = some (.int .i64 y0) := (blk_cell Nb 0).trans rfl
          have v1 : Xb.cell? ⟨wC.heap.size, 1, none⟩ = some (.int .i64 y1) := (blk_cell Nb 1).trans rfl
          have v2 : Xb.cell? ⟨wC.heap.size, 2, none⟩ = some (.int .i64 y2) := (blk_cell Nb 2).trans rfl
          have v3 : Xb.cell? ⟨wC.heap.size, 3, none⟩ = some (.int .i64 A) := (blk_cell Nb 3).trans rfl
          clear Nb Ob
          go_wp2
          go_roundw
          case rel => exact ⟨.inr (.inr (.inl rfl)), Mb⟩
          case measure => simp [intOf]
        · generalize hXb : ((((wC.setCell ⟨Xa.heap.size, 0, none⟩ (.int .i64 y0)).setCell ⟨Xa.heap.size, 1, none⟩ (.int .i64 y1)).setCell ⟨Xa.heap.size, 2, none⟩ (.int .i64 y2)).setCell ⟨Xa.heap.size, 3, none⟩ (.int .i64 A)) = Xb
          have Nb : Xb.heap[Xa.heap.size]? = some (.cells #[.int .i64 y0, .int .i64 y1, .int .i64 y2, .int .i64 A] 45 (0, 0)) := by rw [← hXb]; exact blk_put (blk_put (blk_put (blk_put Tb 0 _ rfl) 1 _ rfl) 2 _ rfl) 3 _ rfl
          have Ob : Xb.heap[wA.heap.size]? = some (.cells #[.int .i64 y0, .int .i64 y1, .int .i64 y2, .int .i64 A] 45 (0, 0)) := by rw [← hXb]; exact blk_far (blk_far (blk_far (blk_far Rb (by show wA.heap.size ≠ Xa.heap.size; omega) _) (by show wA.heap.size ≠ Xa.heap.size; omega) _) (by show wA.heap.size ≠ Xa.heap.size; omega) _) (by show wA.heap.size ≠ Xa.heap.size; omega) _
          have Mb : TwF s w.heap.size lim0 l1 a0 b0 l4 R G B A w Xb := by rw [← hXb]; exact (((FC.set _ 0 _ Bb).set _ 1 _ Bb).set _ 2 _ Bb).set _ 3 _ Bb
          clear hXb Tb hzb0 hfb0 hzb1 hfb1 hzb2 hfb2 hzb3 hfb3
          clear jb pb0 pb1 pb2 pb3 djb dpb0 dpb1 dpb2 dpb3 ab ab0 ab1 ab2 ab3 eab eab0 eab1 eab2 eab3
          have u0 : Xb.cell? ⟨wA.heap.size, 0, none⟩ = some (.int .i64 y0) := (blk_cell Ob 0).trans rfl
          have u1 : Xb.cell? ⟨wA.heap.size, 1, none⟩ = some (.int .i64 y1) := (blk_cell Ob 1).trans rfl
          have u2 : Xb.cell? ⟨wA.heap.size, 2, none⟩ = some (.int .i64 y2) := (blk_cell Ob 2).trans rfl
          have u3 : Xb.cell? ⟨wA.heap.size, 3, none⟩ = some (.int .i64 A) := (blk_cell Ob 3).trans rfl
          have v0 : Xb.cell? ⟨Xa.heap.size, 0, none⟩ = some (.int .i64 y0) := (blk_cell Nb 0).trans rfl
          have v1 : Xb.cell? ⟨Xa.heap.size, 1, none⟩ = some (.int .i64 y1) := (blk_cell Nb 1).trans rfl
          have v2 : Xb.cell? ⟨Xa.heap.size, 2, none⟩ = some (.int .i64 y2) := (blk_cell Nb 2).trans rfl
          have v3 : Xb.cell? ⟨Xa.heap.size, 3, none⟩ = some (.int .i64 A) := (blk_cell Nb 3).trans rfl
          clear Nb Ob
          go_wp2
          go_roundw
          case rel => exact ⟨.inr (.inr (.inl rfl)), Mb⟩
          case measure => simp [intOf]
      · generalize hXa : ((((wA.setCell ⟨wr.heap.size, 0, none⟩ (.int .i64 y0)).setCell ⟨wr.heap.size, 1, none⟩ (.int .i64 y1)).setCell ⟨wr.heap.size, 2, none⟩ (.int .i64 y2)).setCell ⟨wr.heap.size, 3, none⟩ (.int .i64 A)) = Xa
        have Na : Xa.heap[wr.heap.size]? = some (.cells #[.int .i64 y0, .int .i64 y1, .int .i64 y2, .int .i64 A] 45 (0, 0)) := by rw [← hXa]; exact blk_put (blk_put (blk_put (blk_put Ta 0 _ rfl) 1 _ rfl) 2 _ rfl) 3 _ rfl
        have Oa : Xa.heap[w.heap.size]? = some (.cells #[.int .i64 R, .int .i64 G, .int .i64 B, .int .i64 A] 45 (0, 0)) := by rw [← hXa]; exact blk_far (blk_far (blk_far (blk_far Ra (by show w.heap.size ≠ wr.heap.size; omega) _) (by show w.heap.size ≠ wr.heap.size; omega) _) (by show w.heap.size ≠ wr.heap.size; omega) _) (by show w.heap.size ≠ wr.heap.size; omega) _
        have Ma : TwF s w.heap.size lim0 l1 a0 b0 l4 R G B A w Xa := by rw [← hXa]; exact (((FA.set _ 0 _ Ba).set _ 1 _ Ba).set _ 2 _ Ba).set _ 3 _ Ba
        clear hXa Ta hza0 hfa0 hza1 hfa1 hza2 hfa2 hza3 hfa3
        clear ja pa0 pa1 pa2 pa3 dja dpa0 dpa1 dpa2 dpa3 aa aa0 aa1 aa2 aa3 eaa eaa0 eaa1 eaa2 eaa3
        clear Oa
        have jb : Xa.cell? ⟨s + 1 + 1 + 1 + 1, 1, none⟩ = some (.slice (some ⟨s + 1 + 1, 0, none⟩) 1 1) := (blk_cell Ma.ll 1).trans rfl
        have pb0 : Xa.cell? ⟨wr.heap.size, 0, none⟩ = some (.int .i64 y0) := (blk_cell Na 0).trans rfl
        have pb1 : Xa.cell? ⟨wr.heap.size, 1, none⟩ = some (.int .i64 y1) := (blk_cell Na 1).trans rfl
        have pb2 : Xa.cell? ⟨wr.heap.size, 2, none⟩ = some (.int .i64 y2) := (blk_cell Na 2).trans rfl
        have pb3 : Xa.cell? ⟨wr.heap.size, 3, none⟩ = some (.int .i64 A) := (blk_cell Na 3).trans rfl
        have djb := fun o => kept (below_drew (below_alloc (Below.refl _ Xa) o)) jb
        have dpb0 := fun o => kept (below_drew (below_alloc (Below.refl _ Xa) o)) pb0
        have dpb1 := fun o => kept (below_drew (below_alloc (Below.refl _ Xa) o)) pb1
        have dpb2 := fun o => kept (below_drew (below_alloc (Below.refl _ Xa) o)) pb2
        have dpb3 := fun o => kept (below_drew (below_alloc (Below.refl _ Xa) o)) pb3
        have Bb := Ma.big
        have Qb := blk_lt Na
        go_wp2
        go_region_held3 (fun w' => w'.cell? ⟨s + 1 + 1 + 1 + 1, 1, none⟩ = some (.slice (some ⟨s + 1 + 1, 0, none⟩) 1 1) ∧ w'.cell? ⟨wr.heap.size, 0, none⟩ = some (.int .i64 y0) ∧ w'.cell? ⟨wr.heap.size, 1, none⟩ = some (.int .i64 y1) ∧ w'.cell? ⟨wr.heap.size, 2, none⟩ = some (.int .i64 y2) ∧ w'.cell? ⟨wr.heap.size, 3, none⟩ = some (.int .i64 A))
          (with_reducible (refine ⟨?_, ?_, ?_, ?_, ?_⟩ <;> first | assumption | (simp only [World.cell?_drew]; assumption) | exact djb _ | exact dpb0 _ | exact dpb1 _ | exact dpb2 _ | exact dpb3 _ | exact eab _ | exact eab0 _ | exact eab1 _ | exact eab2 _ | exact eab3 _ | (refine far4 (by first | omega | (dsimp only; omega)) ?_; assumption)))
          ((go_at_call 36; refine (G1.out s _ ?_).mono ?_; ((with_reducible repeat (first | refine TwF.drew ?_ | refine TwF.alloc ?_ _)); exact Ma); rintro e wC ⟨rfl, hb⟩; have FC : TwF s w.heap.size lim0 l1 a0 b0 l4 R G B A w wC := TwF.below (by (with_reducible repeat (first | refine TwF.drew ?_ | refine TwF.alloc ?_ _)); exact Ma) hb; have Rb : wC.heap[wr.heap.size]? = some (.cells #[.int .i64 y0, .int .i64 y1, .int .i64 y2, .int .i64 A] 45 (0, 0)) := blk_below (by (with_reducible repeat (first | refine blk_drewN ?_ _ | refine blk_drew ?_ | refine blk_alloc ?_ _)); exact Na) hb; have ab : wC.cell? ⟨s + 1 + 1 + 1 + 1, 1, none⟩ = some (.slice (some ⟨s + 1 + 1, 0, none⟩) 1 1) := (blk_cell FC.ll 1).trans rfl; have ab0 : wC.cell? ⟨wr.heap.size, 0, none⟩ = some (.int .i64 y0) := (blk_cell Rb 0).trans rfl; have ab1 : wC.cell? ⟨wr.heap.size, 1, none⟩ = some (.int .i64 y1) := (blk_cell Rb 1).trans rfl; have ab2 : wC.cell? ⟨wr.heap.size, 2, none⟩ = some (.int .i64 y2) := (blk_cell Rb 2).trans rfl; have ab3 : wC.cell? ⟨wr.heap.size, 3, none⟩ = some (.int .i64 A) := (blk_cell Rb 3).trans rfl; have eab := fun o => kept (below_alloc (Below.refl _ wC) o) ab; have eab0 := fun o => kept (below_alloc (Below.refl _ wC) o) ab0; have eab1 := fun o => kept (below_alloc (Below.refl _ wC) o) ab1; have eab2 := fun o => kept (below_alloc (Below.refl _ wC) o) ab2; have eab3 := fun o => kept (below_alloc (Below.refl _ wC) o) ab3; have Db := FC.big; try (have Tb : wC.heap[Xa.heap.size]? = some (.cells #[.int .i64 0, .int .i64 0, .int .i64 0, .int .i64 0] 45 (0, 0)) := blk_below (by (with_reducible repeat (first | refine blk_drewN ?_ _ | refine blk_drew ?_)); exact blk_new _ _) hb; have hzb0 : wC.cell? ⟨Xa.heap.size, 0, none⟩ = some (.int .i64 0) := (blk_cell Tb 0).trans rfl; have hfb0 := blk_frozen Tb 0; have hzb1 : wC.cell? ⟨Xa.heap.size, 1, none⟩ = some (.int .i64 0) := (blk_cell Tb 1).trans rfl; have hfb1 := blk_frozen Tb 1; have hzb2 : wC.cell? ⟨Xa.heap.size, 2, none⟩ = some (.int .i64 0) := (blk_cell Tb 2).trans rfl; have hfb2 := blk_frozen Tb 2; have hzb3 : wC.cell? ⟨Xa.heap.size, 3, none⟩ = some (.int .i64 0) := (blk_cell Tb 3).trans rfl; have hfb3 := blk_frozen Tb 3)))
        · obtain ⟨Xb, hXb⟩ : ∃ X, wC.alloc (.cells #[.int .i64 y0, .int .i64 y1, .int .i64 y2, .int .i64 A] 45) = X := ⟨_, rfl⟩
          have gb : wC.heap.size = wC.heap.size := rfl
          have Nb : Xb.heap[wC.heap.size]? = some (.cells #[.int .i64 y0, .int .i64 y1, .int .i64 y2, .int .i64 A] 45 (0, 0)) := by rw [← hXb]; exact blk_new wC _
          have Ob := blk_alloc Rb (.cells #[.int .i64 y0, .int .i64 y1, .int .i64 y2, .int .i64 A] 45)
          have Mb := FC.alloc (.cells #[.int .i64 y0, .int .i64 y1, .int .i64 y2, .int .i64 A] 45)
          rw [hXb] at Ob Mb ⊢
          clear gb hXb
          clear jb pb0 pb1 pb2 pb3 djb dpb0 dpb1 dpb2 dpb3 ab ab0 ab1 ab2 ab3 eab eab0 eab1 eab2 eab3
          have u0 : Xb.cell? ⟨wr.heap.size, 0, none⟩ = some (.int .i64 y0) := (blk_cell Ob 0).trans rfl
          have u1 : Xb.cell? ⟨wr.heap.size, 1, none⟩ = some (.int .i64 y1) := (blk_cell Ob 1).trans rfl
          have u2 : Xb.cell? ⟨wr.heap.size, 2, none⟩ = some (.int .i64 y2) := (blk_cell Ob 2).trans rfl
          have u3 : Xb.cell? ⟨wr.heap.size, 3, none⟩ = some (.int .i64 A) := (blk_cell Ob 3).trans rfl
          have v0 : Xb.cell? ⟨wC.heap.size, 0, none⟩ = some (.int .i64 y0) := (blk_cell Nb 0).trans rfl
          have v1 : Xb.cell? ⟨wC.heap.size, 1, none⟩ = some (.int .i64 y1) := (blk_cell Nb 1).trans rfl
          have v2 : Xb.cell? ⟨wC.heap.size, 2, none⟩ = some (.int .i64 y2) := (blk_cell Nb 2).trans rfl
          have v3 : Xb.cell? ⟨wC.heap.size, 3, none⟩ = some (.int .i64 A) := (blk_cell Nb 3).trans rfl
          clear Nb Ob
          go_wp2
          go_roundw
          case rel => exact ⟨.inr (.inr (.inl rfl)), Mb⟩
          case measure => simp [intOf]
        · generalize hXb : ((((wC.setCell ⟨Xa.heap.size, 0, none⟩ (.int .i64 y0)).setCell ⟨Xa.heap.size, 1, none⟩ (.int .i64 y1)).setCell ⟨Xa.heap.size, 2, none⟩ (.int .i64 y2)).setCell ⟨Xa.heap.size, 3, none⟩ (.int .i64 A)) = Xb
          have Nb : Xb.heap[Xa.heap.size]? = some (.cells #[.int .i64 y0, .int .i64 y1, .int .i64 y2, .int .i64 A] 45 (0, 0)) := by rw [← hXb]; exact blk_put (blk_put (blk_put (blk_put Tb 0 _ rfl) 1 _ rfl) 2 _ rfl) 3 _ rfl
          have Ob : Xb.heap[wr.heap.size]? = some (.cells #[.int .i64 y0, .int .i64 y1, .int .i64 y2, .int .i64 A] 45 (0, 0)) := by rw [← hXb]; exact blk_far (blk_far (blk_far (blk_far Rb (by show wr.heap.size ≠ Xa.heap.size; omega) _) (by show wr.heap.size ≠ Xa.heap.size; omega) _) (by show wr.heap.size ≠ Xa.heap.size; omega) _) (by show wr.heap.size ≠ Xa.heap.size; omega) _
          have Mb : TwF s w.heap.size lim0 l1 a0 b0 l4 R G B A w Xb := by rw [← hXb]; exact (((FC.set _ 0 _ Bb).set _ 1 _ Bb).set _ 2 _ Bb).set _ 3 _ Bb
          clear hXb Tb hzb0 hfb0 hzb1 hfb1 hzb2 hfb2 hzb3 hfb3
          clear jb pb0 pb1 pb2 pb3 djb dpb0 dpb1 dpb2 dpb3 ab ab0 ab1 ab2 ab3 eab eab0 eab1 eab2 eab3
          have u0 : Xb.cell? ⟨wr.heap.size, 0, none⟩ = some (.int .i64 y0) := (blk_cell Ob 0).trans rfl
          have u1 : Xb.cell? ⟨wr.heap.size, 1, none⟩ = some (.int .i64 y1) := (blk_cell Ob 1).trans rfl
          have u2 : Xb.cell? ⟨wr.heap.size, 2, none⟩ = some (.int .i64 y2) := (blk_cell Ob 2).trans rfl
          have u3 : Xb.cell? ⟨wr.heap.size, 3, none⟩ = some (.int .i64 A) := (blk_cell Ob 3).trans rfl
          have v0 : Xb.cell? ⟨Xa.heap.size, 0, none⟩ = some (.int .i64 y0) := (blk_cell Nb 0).trans rfl
          have v1 : Xb.cell? ⟨Xa.heap.size, 1, none⟩ = some (.int .i64 y1) := (blk_cell Nb 1).trans rfl
          have v2 : Xb.cell? ⟨Xa.heap.size, 2, none⟩ = some (.int .i64 y2) := (blk_cell Nb 2).trans rfl
          have v3 : Xb.cell? ⟨Xa.heap.size, 3, none⟩ = some (.int .i64 A) := (blk_cell Nb 3).trans rfl
          clear Nb Ob
          go_wp2
          go_roundw
          case rel => exact ⟨.inr (.inr (.inl rfl)), Mb⟩
          case measure => simp [intOf]
    · have k0 : wr.cell? ⟨s, 0, none⟩ = some (.int .i64 6) := (blk_cell F.kinds 0).trans rfl
      have k1 : wr.cell? ⟨s, 1, none⟩ = some (.int .i64 7) := (blk_cell F.kinds 1).trans rfl
      have k2 : wr.cell? ⟨s, 2, none⟩ = some (.int .i64 9) := (blk_cell F.kinds 2).trans rfl
      have ja : wr.cell? ⟨s + 1 + 1 + 1 + 1, 2, none⟩ = some (.slice (some ⟨s + 1 + 1 + 1, 0, none⟩) 3 3) := (blk_cell F.ll 2).trans rfl
      have pa0 : wr.cell? ⟨w.heap.size, 0, none⟩ = some (.int .i64 R) := (blk_cell F.px 0).trans rfl
      have pa1 : wr.cell? ⟨w.heap.size, 1, none⟩ = some (.int .i64 G) := (blk_cell F.px 1).trans rfl
      have pa2 : wr.cell? ⟨w.heap.size, 2, none⟩ = some (.int .i64 B) := (blk_cell F.px 2).trans rfl
      have pa3 : wr.cell? ⟨w.heap.size, 3, none⟩ = some (.int .i64 A) := (blk_cell F.px 3).trans rfl
      have dja := fun o => kept (below_drew (below_alloc (Below.refl _ wr) o)) ja
      have dpa0 := fun o => kept (below_drew (below_alloc (Below.refl _ wr) o)) pa0
      have dpa1 := fun o => kept (below_drew (below_alloc (Below.refl _ wr) o)) pa1
      have dpa2 := fun o => kept (below_drew (below_alloc (Below.refl _ wr) o)) pa2
      have dpa3 := fun o => kept (below_drew (below_alloc (Below.refl _ wr) o)) pa3
      have Ba := F.big
      have Qa := blk_lt F.px
      go_wp2
      go_region_held3 (fun w' => w'.cell? ⟨s + 1 + 1 + 1 + 1, 2, none⟩ = some (.slice (some ⟨s + 1 + 1 + 1, 0, none⟩) 3 3) ∧ w'.cell? ⟨w.heap.size, 0, none⟩ = some (.int .i64 R) ∧ w'.cell? ⟨w.heap.size, 1, none⟩ = some (.int .i64 G) ∧ w'.cell? ⟨w.heap.size, 2, none⟩ = some (.int .i64 B) ∧ w'.cell? ⟨w.heap.size, 3, none⟩ = some (.int .i64 A))
        (with_reducible (refine ⟨?_, ?_, ?_, ?_, ?_⟩ <;> first | assumption | (simp only [World.cell?_drew]; assumption) | exact dja _ | exact dpa0 _ | exact dpa1 _ | exact dpa2 _ | exact dpa3 _ | exact eaa _ | exact eaa0 _ | exact eaa1 _ | exact eaa2 _ | exact eaa3 _ | (refine far4 (by first | omega | (dsimp only; omega)) ?_; assumption)))
        ((go_at_call 36; refine (H2.out s _ ?_).mono ?_; ((with_reducible repeat (first | refine TwF.drew ?_ | refine TwF.alloc ?_ _)); exact F); rintro e wA ⟨rfl, hb⟩; have FA : TwF s w.heap.size lim0 l1 a0 b0 l4 R G B A w wA := TwF.below (by (with_reducible repeat (first | refine TwF.drew ?_ | refine TwF.alloc ?_ _)); exact F) hb; have Ra : wA.heap[w.heap.size]? = some (.cells #[.int .i64 R, .int .i64 G, .int .i64 B, .int .i64 A] 45 (0, 0)) := blk_below (by (with_reducible repeat (first | refine blk_drewN ?_ _ | refine blk_drew ?_ | refine blk_alloc ?_ _)); exact F.px) hb; have aa : wA.cell? ⟨s + 1 + 1 + 1 + 1, 2, none⟩ = some (.slice (some ⟨s + 1 + 1 + 1, 0, none⟩) 3 3) := (blk_cell FA.ll 2).trans rfl; have aa0 : wA.cell? ⟨w.heap.size, 0, none⟩ = some (.int .i64 R) := (blk_cell Ra 0).trans rfl; have aa1 : wA.cell? ⟨w.heap.size, 1, none⟩ = some (.int .i64 G) := (blk_cell Ra 1).trans rfl; have aa2 : wA.cell? ⟨w.heap.size, 2, none⟩ = some (.int .i64 B) := (blk_cell Ra 2).trans rfl; have aa3 : wA.cell? ⟨w.heap.size, 3, none⟩ = some (.int .i64 A) := (blk_cell Ra 3).trans rfl; have eaa := fun o => kept (below_alloc (Below.refl _ wA) o) aa; have eaa0 := fun o => kept (below_alloc (Below.refl _ wA) o) aa0; have eaa1 := fun o => kept (below_alloc (Below.refl _ wA) o) aa1; have eaa2 := fun o => kept (below_alloc (Below.refl _ wA) o) aa2; have eaa3 := fun o => kept (below_alloc (Below.refl _ wA) o) aa3; have Da := FA.big; try (have Ta : wA.heap[wr.heap.size]? = some (.cells #[.int .i64 0, .int .i64 0, .int .i64 0, .int .i64 0] 45 (0, 0)) := blk_below (by (with_reducible repeat (first | refine blk_drewN ?_ _ | refine blk_drew ?_)); exact blk_new _ _) hb; have hza0 : wA.cell? ⟨wr.heap.size, 0, none⟩ = some (.int .i64 0) := (blk_cell Ta 0).trans rfl; have hfa0 := blk_frozen Ta 0; have hza1 : wA.cell? ⟨wr.heap.size, 1, none⟩ = some (.int .i64 0) := (blk_cell Ta 1).trans rfl; have hfa1 := blk_frozen Ta 1; have hza2 : wA.cell? ⟨wr.heap.size, 2, none⟩ = some (.int .i64 0) := (blk_cell Ta 2).trans rfl; have hfa2 := blk_frozen Ta 2; have hza3 : wA.cell? ⟨wr.heap.size, 3, none⟩ = some (.int .i64 0) := (blk_cell Ta 3).trans rfl; have hfa3 := blk_frozen Ta 3)))
      · obtain ⟨Xa, hXa⟩ : ∃ X, wA.alloc (.cells #[.int .i64 z0, .int .i64 z1, .int .i64 z2, .int .i64 A] 45) = X := ⟨_, rfl⟩
        have ga : wA.heap.size = wA.heap.size := rfl
        have Na : Xa.heap[wA.heap.size]? = some (.cells #[.int .i64 z0, .int .i64 z1, .int .i64 z2, .int .i64 A] 45 (0, 0)) := by rw [← hXa]; exact blk_new wA _
        have Oa := blk_alloc Ra (.cells #[.int .i64 z0, .int .i64 z1, .int .i64 z2, .int .i64 A] 45)
        have Ma := FA.alloc (.cells #[.int .i64 z0, .int .i64 z1, .int .i64 z2, .int .i64 A] 45)
        rw [hXa] at Oa Ma ⊢
        clear ga hXa
        clear ja pa0 pa1 pa2 pa3 dja dpa0 dpa1 dpa2 dpa3 aa aa0 aa1 aa2 aa3 eaa eaa0 eaa1 eaa2 eaa3
        clear Oa
        have jb : Xa.cell? ⟨s + 1 + 1 + 1 + 1, 2, none⟩ = some (.slice (some ⟨s + 1 + 1 + 1, 0, none⟩) 3 3) := (blk_cell Ma.ll 2).trans rfl
        have pb0 : Xa.cell? ⟨wA.heap.size, 0, none⟩ = some (.int .i64 z0) := (blk_cell Na 0).trans rfl
        have pb1 : Xa.cell? ⟨wA.heap.size, 1, none⟩ = some (.int .i64 z1) := (blk_cell Na 1).trans rfl
        have pb2 : Xa.cell? ⟨wA.heap.size, 2, none⟩ = some (.int .i64 z2) := (blk_cell Na 2).trans rfl
        have pb3 : Xa.cell? ⟨wA.heap.size, 3, none⟩ = some (.int .i64 A) := (blk_cell Na 3).trans rfl
        have djb := fun o => kept (below_drew (below_alloc (Below.refl _ Xa) o)) jb
        have dpb0 := fun o => kept (below_drew (below_alloc (Below.refl _ Xa) o)) pb0
        have dpb1 := fun o => kept (below_drew (below_alloc (Below.refl _ Xa) o)) pb1
        have dpb2 := fun o => kept (below_drew (below_alloc (Below.refl _ Xa) o)) pb2
        have dpb3 := fun o => kept (below_drew (below_alloc (Below.refl _ Xa) o)) pb3
        have Bb := Ma.big
        have Qb := blk_lt Na
        go_wp2
        go_region_held3 (fun w' => w'.cell? ⟨s + 1 + 1 + 1 + 1, 2, none⟩ = some (.slice (some ⟨s + 1 + 1 + 1, 0, none⟩) 3 3) ∧ w'.cell? ⟨wA.heap.size, 0, none⟩ = some (.int .i64 z0) ∧ w'.cell? ⟨wA.heap.size, 1, none⟩ = some (.int .i64 z1) ∧ w'.cell? ⟨wA.heap.size, 2, none⟩ = some (.int .i64 z2) ∧ w'.cell? ⟨wA.heap.size, 3, none⟩ = some (.int .i64 A))
          (with_reducible (refine ⟨?_, ?_, ?_, ?_, ?_⟩ <;> first | assumption | (simp only [World.cell?_drew]; assumption) | exact djb _ | exact dpb0 _ | exact dpb1 _ | exact dpb2 _ | exact dpb3 _ | exact eab _ | exact eab0 _ | exact eab1 _ | exact eab2 _ | exact eab3 _ | (refine far4 (by first | omega | (dsimp only; omega)) ?_; assumption)))
          ((go_at_call 36; refine (G2.out s _ ?_).mono ?_; ((with_reducible repeat (first | refine TwF.drew ?_ | refine TwF.alloc ?_ _)); exact Ma); rintro e wC ⟨rfl, hb⟩; have FC : TwF s w.heap.size lim0 l1 a0 b0 l4 R G B A w wC := TwF.below (by (with_reducible repeat (first | refine TwF.drew ?_ | refine TwF.alloc ?_ _)); exact Ma) hb; have Rb : wC.heap[wA.heap.size]? = some (.cells #[.int .i64 z0, .int .i64 z1, .int .i64 z2, .int .i64 A] 45 (0, 0)) := blk_below (by (with_reducible repeat (first | refine blk_drewN ?_ _ | refine blk_drew ?_ | refine blk_alloc ?_ _)); exact Na) hb; have ab : wC.cell? ⟨s + 1 + 1 + 1 + 1, 2, none⟩ = some (.slice (some ⟨s + 1 + 1 + 1, 0, none⟩) 3 3) := (blk_cell FC.ll 2).trans rfl; have ab0 : wC.cell? ⟨wA.heap.size, 0, none⟩ = some (.int .i64 z0) := (blk_cell Rb 0).trans rfl; have ab1 : wC.cell? ⟨wA.heap.size, 1, none⟩ = some (.int .i64 z1) := (blk_cell Rb 1).trans rfl; have ab2 : wC.cell? ⟨wA.heap.size, 2, none⟩ = some (.int .i64 z2) := (blk_cell Rb 2).trans rfl; have ab3 : wC.cell? ⟨wA.heap.size, 3, none⟩ = some (.int .i64 A) := (blk_cell Rb 3).trans rfl; have eab := fun o => kept (below_alloc (Below.refl _ wC) o) ab; have eab0 := fun o => kept (below_alloc (Below.refl _ wC) o) ab0; have eab1 := fun o => kept (below_alloc (Below.refl _ wC) o) ab1; have eab2 := fun o => kept (below_alloc (Below.refl _ wC) o) ab2; have eab3 := fun o => kept (below_alloc (Below.refl _ wC) o) ab3; have Db := FC.big; try (have Tb : wC.heap[Xa.heap.size]? = some (.cells #[.int .i64 0, .int .i64 0, .int .i64 0, .int .i64 0] 45 (0, 0)) := blk_below (by (with_reducible repeat (first | refine blk_drewN ?_ _ | refine blk_drew ?_)); exact blk_new _ _) hb; have hzb0 : wC.cell? ⟨Xa.heap.size, 0, none⟩ = some (.int .i64 0) := (blk_cell Tb 0).trans rfl; have hfb0 := blk_frozen Tb 0; have hzb1 : wC.cell? ⟨Xa.heap.size, 1, none⟩ = some (.int .i64 0) := (blk_cell Tb 1).trans rfl; have hfb1 := blk_frozen Tb 1; have hzb2 : wC.cell? ⟨Xa.heap.size, 2, none⟩ = some (.int .i64 0) := (blk_cell Tb 2).trans rfl; have hfb2 := blk_frozen Tb 2; have hzb3 : wC.cell? ⟨Xa.heap.size, 3, none⟩ = some (.int .i64 0) := (blk_cell Tb 3).trans rfl; have hfb3 := blk_frozen Tb 3)))
        · obtain ⟨Xb, hXb⟩ : ∃ X, wC.alloc (.cells #[.int .i64 z0, .int .i64 z1, .int .i64 z2, .int .i64 A] 45) = X := ⟨_, rfl⟩
          have gb : wC.heap.size = wC.heap.size := rfl
          have Nb : Xb.heap[wC.heap.size]? = some (.cells #[.int .i64 z0, .int .i64 z1, .int .i64 z2, .int .i64 A] 45 (0, 0)) := by rw [← hXb]; exact blk_new wC _
          have Ob := blk_alloc Rb (.cells #[.int .i64 z0, .int .i64 z1, .int .i64 z2, .int .i64 A] 45)
          have Mb := FC.alloc (.cells #[.int .i64 z0, .int .i64 z1, .int .i64 z2, .int .i64 A] 45)
          rw [hXb] at Ob Mb ⊢
          clear gb hXb
          clear jb pb0 pb1 pb2 pb3 djb dpb0 dpb1 dpb2 dpb3 ab ab0 ab1 ab2 ab3 eab eab0 eab1 eab2 eab3
          have u0 : Xb.cell? ⟨wA.heap.size, 0, none⟩ = some (.int .i64 z0) := (blk_cell Ob 0).trans rfl
          have u1 : Xb.cell? ⟨wA.heap.size, 1, none⟩ = some (.int .i64 z1) := (blk_cell Ob 1).trans rfl
          have u2 : Xb.cell? ⟨wA.heap.size, 2, none⟩ = some (.int .i64 z2) := (blk_cell Ob 2).trans rfl
          have u3 : Xb.cell? ⟨wA.heap.size, 3, none⟩ = some (.int .i64 A) := (blk_cell Ob 3).trans rfl
          have v0 : Xb.cell? ⟨wC.heap.size, 0, none⟩ = some (.int .i64 z0) := (blk_cell Nb 0).trans rfl
          have v1 : Xb.cell? ⟨wC.heap.size, 1, none⟩ = some (.int .i64 z1) := (blk_cell Nb 1).trans rfl
          have v2 : Xb.cell? ⟨wC.heap.size, 2, none⟩ = some (.int .i64 z2) := (blk_cell Nb 2).trans rfl
          have v3 : Xb.cell? ⟨wC.heap.size, 3, none⟩ = some (.int .i64 A) := (blk_cell Nb 3).trans rfl
          clear Nb Ob
          go_wp2
          go_roundw
          case rel => exact ⟨.inr (.inr (.inr rfl)), Mb⟩
          case measure => simp [intOf]
        · generalize hXb : ((((wC.setCell ⟨Xa.heap.size, 0, none⟩ (.int .i64 z0)).setCell ⟨Xa.heap.size, 1, none⟩ (.int .i64 z1)).setCell ⟨Xa.heap.size, 2, none⟩ (.int .i64 z2)).setCell ⟨Xa.heap.size, 3, none⟩ (.int .i64 A)) = Xb
          have Nb : Xb.heap[Xa.heap.size]? = some (.cells #[.int .i64 z0, .int .i64 z1, .int .i64 z2, .int .i64 A] 45 (0, 0)) := by rw [← hXb]; exact blk_put (blk_put (blk_put (blk_put Tb 0 _ rfl) 1 _ rfl) 2 _ rfl) 3 _ rfl
          have Ob : Xb.heap[wA.heap.size]? = some (.cells #[.int .i64 z0, .int .i64 z1, .int .i64 z2, .int .i64 A] 45 (0, 0)) := by rw [← hXb]; exact blk_far (blk_far (blk_far (blk_far Rb (by show wA.heap.size ≠ Xa.heap.size; omega) _) (by show wA.heap.size ≠ Xa.heap.size; omega) _) (by show wA.heap.size ≠ Xa.heap.size; omega) _) (by show wA.heap.size ≠ Xa.heap.size; omega) _
          have Mb : TwF s w.heap.size lim0 l1 a0 b0 l4 R G B A w Xb := by rw [← hXb]; exact (((FC.set _ 0 _ Bb).set _ 1 _ Bb).set _ 2 _ Bb).set _ 3 _ Bb
          clear hXb Tb hzb0 hfb0 hzb1 hfb1 hzb2 hfb2 hzb3 hfb3
          clear jb pb0 pb1 pb2 pb3 djb dpb0 dpb1 dpb2 dpb3 ab ab0 ab1 ab2 ab3 eab eab0 eab1 eab2 eab3
          have u0 : Xb.cell? ⟨wA.heap.size, 0, none⟩ = some (.int .i64 z0) := (blk_cell Ob 0).trans rfl
          have u1 : Xb.cell? ⟨wA.heap.size, 1, none⟩ = some (.int .i64 z1) := (blk_cell Ob 1).trans rfl
          have u2 : Xb.cell? ⟨wA.heap.size, 2, none⟩ = some (.int .i64 z2) := (blk_cell Ob 2).trans rfl
          have u3 : Xb.cell? ⟨wA.heap.size, 3, none⟩ = some (.int .i64 A) := (blk_cell Ob 3).trans rfl
          have v0 : Xb.cell? ⟨Xa.heap.size, 0, none⟩ = some (.int .i64 z0) := (blk_cell Nb 0).trans rfl
          have v1 : Xb.cell? ⟨Xa.heap.size, 1, none⟩ = some (.int .i64 z1) := (blk_cell Nb 1).trans rfl
          have v2 : Xb.cell? ⟨Xa.heap.size, 2, none⟩ = some (.int .i64 z2) := (blk_cell Nb 2).trans rfl
          have v3 : Xb.cell? ⟨Xa.heap.size, 3, none⟩ = some (.int .i64 A) := (blk_cell Nb 3).trans rfl
          clear Nb Ob
          go_wp2
          go_roundw
          case rel => exact ⟨.inr (.inr (.inr rfl)), Mb⟩
          case measure => simp [intOf]
      · generalize hXa : ((((wA.setCell ⟨wr.heap.size, 0, none⟩ (.int .i64 z0)).setCell ⟨wr.heap.size, 1, none⟩ (.int .i64 z1)).setCell ⟨wr.heap.size, 2, none⟩ (.int .i64 z2)).setCell ⟨wr.heap.size, 3, none⟩ (.int .i64 A)) = Xa
        have Na : Xa.heap[wr.heap.size]? = some (.cells #[.int .i64 z0, .int .i64 z1, .int .i64 z2, .int .i64 A] 45 (0, 0)) := by rw [← hXa]; exact blk_put (blk_put (blk_put (blk_put Ta 0 _ rfl) 1 _ rfl) 2 _ rfl) 3 _ rfl
        have Oa : Xa.heap[w.heap.size]? = some (.cells #[.int .i64 R, .int .i64 G, .int .i64 B, .int .i64 A] 45 (0, 0)) := by rw [← hXa]; exact blk_far (blk_far (blk_far (blk_far Ra (by show w.heap.size ≠ wr.heap.size; omega) _) (by show w.heap.size ≠ wr.heap.size; omega) _) (by show w.heap.size ≠ wr.heap.size; omega) _) (by show w.heap.size ≠ wr.heap.size; omega) _
        have Ma : TwF s w.heap.size lim0 l1 a0 b0 l4 R G B A w Xa := by rw [← hXa]; exact (((FA.set _ 0 _ Ba).set _ 1 _ Ba).set _ 2 _ Ba).set _ 3 _ Ba
        clear hXa Ta hza0 hfa0 hza1 hfa1 hza2 hfa2 hza3 hfa3
        clear ja pa0 pa1 pa2 pa3 dja dpa0 dpa1 dpa2 dpa3 aa aa0 aa1 aa2 aa3 eaa eaa0 eaa1 eaa2 eaa3
        clear Oa
        have jb : Xa.cell? ⟨s + 1 + 1 + 1 + 1, 2, none⟩ = some (.slice (some ⟨s + 1 + 1 + 1, 0, none⟩) 3 3) := (blk_cell Ma.ll 2).trans rfl
        have pb0 : Xa.cell? ⟨wr.heap.size, 0, none⟩ = some (.int .i64 z0) := (blk_cell Na 0).trans rfl
        have pb1 : Xa.cell? ⟨wr.heap.size, 1, none⟩ = some (.int .i64 z1) := (blk_cell Na 1).trans rfl
        have pb2 : Xa.cell? ⟨wr.heap.size, 2, none⟩ = some (.int .i64 z2) := (blk_cell Na 2).trans rfl
        have pb3 : Xa.cell? ⟨wr.heap.size, 3, none⟩ = some (.int .i64 A) := (blk_cell Na 3).trans rfl
        have djb := fun o => kept (below_drew (below_alloc (Below.refl _ Xa) o)) jb
        have dpb0 := fun o => kept (below_drew (below_alloc (Below.refl _ Xa) o)) pb0
        have dpb1 := fun o => kept (below_drew (below_alloc (Below.refl _ Xa) o)) pb1
        have dpb2 := fun o => kept (below_drew (below_alloc (Below.refl _ Xa) o)) pb2
        have dpb3 := fun o => kept (below_drew (below_alloc (Below.refl _ Xa) o)) pb3
        have Bb := Ma.big
        have Qb := blk_lt Na
        go_wp2
        go_region_held3 (fun w' => w'.cell? ⟨s + 1 + 1 + 1 + 1, 2, none⟩ = some (.slice (some ⟨s + 1 + 1 + 1, 0, none⟩) 3 3) ∧ w'.cell? ⟨wr.heap.size, 0, none⟩ = some (.int .i64 z0) ∧ w'.cell? ⟨wr.heap.size, 1, none⟩ = some (.int .i64 z1) ∧ w'.cell? ⟨wr.heap.size, 2, none⟩ = some (.int .i64 z2) ∧ w'.cell? ⟨wr.heap.size, 3, none⟩ = some (.int .i64 A))
          (with_reducible (refine ⟨?_, ?_, ?_, ?_, ?_⟩ <;> first | assumption | (simp only [World.cell?_drew]; assumption) | exact djb _ | exact dpb0 _ | exact dpb1 _ | exact dpb2 _ | exact dpb3 _ | exact eab _ | exact eab0 _ | exact eab1 _ | exact eab2 _ | exact eab3 _ | (refine far4 (by first | omega | (dsimp only; omega)) ?_; assumption)))
          ((go_at_call 36; refine (G2.out s _ ?_).mono ?_; ((with_reducible repeat (first | refine TwF.drew ?_ | refine TwF.alloc ?_ _)); exact Ma); rintro e wC ⟨rfl, hb⟩; have FC : TwF s w.heap.size lim0 l1 a0 b0 l4 R G B A w wC := TwF.below (by (with_reducible repeat (first | refine TwF.drew ?_ | refine TwF.alloc ?_ _)); exact Ma) hb; have Rb : wC.heap[wr.heap.size]? = some (.cells #[.int .i64 z0, .int .i64 z1, .int .i64 z2, .int .i64 A] 45 (0, 0)) := blk_below (by (with_reducible repeat (first | refine blk_drewN ?_ _ | refine blk_drew ?_ | refine blk_alloc ?_ _)); exact Na) hb; have ab : wC.cell? ⟨s + 1 + 1 + 1 + 1, 2, none⟩ = some (.slice (some ⟨s + 1 + 1 + 1, 0, none⟩) 3 3) := (blk_cell FC.ll 2).trans rfl; have ab0 : wC.cell? ⟨wr.heap.size, 0, none⟩ = some (.int .i64 z0) := (blk_cell Rb 0).trans rfl; have ab1 : wC.cell? ⟨wr.heap.size, 1, none⟩ = some (.int .i64 z1) := (blk_cell Rb 1).trans rfl; have ab2 : wC.cell? ⟨wr.heap.size, 2, none⟩ = some (.int .i64 z2) := (blk_cell Rb 2).trans rfl; have ab3 : wC.cell? ⟨wr.heap.size, 3, none⟩ = some (.int .i64 A) := (blk_cell Rb 3).trans rfl; have eab := fun o => kept (below_alloc (Below.refl _ wC) o) ab; have eab0 := fun o => kept (below_alloc (Below.refl _ wC) o) ab0; have eab1 := fun o => kept (below_alloc (Below.refl _ wC) o) ab1; have eab2 := fun o => kept (below_alloc (Below.refl _ wC) o) ab2; have eab3 := fun o => kept (below_alloc (Below.refl _ wC) o) ab3; have Db := FC.big; try (have Tb : wC.heap[Xa.heap.size]? = some (.cells #[.int .i64 0, .int .i64 0, .int .i64 0, .int .i64 0] 45 (0, 0)) := blk_below (by (with_reducible repeat (first | refine blk_drewN ?_ _ | refine blk_drew ?_)); exact blk_new _ _) hb; have hzb0 : wC.cell? ⟨Xa.heap.size, 0, none⟩ = some (.int .i64 0) := (blk_cell Tb 0).trans rfl; have hfb0 := blk_frozen Tb 0; have hzb1 : wC.cell? ⟨Xa.heap.size, 1, none⟩ = some (.int .i64 0) := (blk_cell Tb 1).trans rfl; have hfb1 := blk_frozen Tb 1; have hzb2 : wC.cell? ⟨Xa.heap.size, 2, none⟩ = some (.int .i64 0) := (blk_cell Tb 2).trans rfl; have hfb2 := blk_frozen Tb 2; have hzb3 : wC.cell? ⟨Xa.heap.size, 3, none⟩ = some (.int .i64 0) := (blk_cell Tb 3).trans rfl; have hfb3 := blk_frozen Tb 3)))
        · obtain ⟨Xb, hXb⟩ : ∃ X, wC.alloc (.cells #[.int .i64 z0, .int .i64 z1, .int .i64 z2, .int .i64 A] 45) = X := ⟨_, rfl⟩
          have gb : wC.heap.size = wC.heap.size := rfl
          have Nb : Xb.heap[wC.heap.size]? = some (.cells #[.int .i64 z0, .int .i64 z1, .int .i64 z2, .int .i64 A] 45 (0, 0)) := by rw [← hXb]; exact blk_new wC _
          have Ob := blk_alloc Rb (.cells #[.int .i64 z0, .int .i64 z1, .int .i64 z2, .int .i64 A] 45)
          have Mb := FC.alloc (.cells #[.int .i64 z0, .int .i64 z1, .int .i64 z2, .int .i64 A] 45)
          rw [hXb] at Ob Mb ⊢
          clear gb hXb
          clear jb pb0 pb1 pb2 pb3 djb dpb0 dpb1 dpb2 dpb3 ab ab0 ab1 ab2 ab3 eab eab0 eab1 eab2 eab3
          have u0 : Xb.cell? ⟨wr.heap.size, 0, none⟩ = some (.int .i64 z0) := (blk_cell Ob 0).trans rfl
          have u1 : Xb.cell? ⟨wr.heap.size, 1, none⟩ = some (.int .i64 z1) := (blk_cell Ob 1).trans rfl
          have u2 : Xb.cell? ⟨wr.heap.size, 2, none⟩ = some (.int .i64 z2) := (blk_cell Ob 2).trans rfl
          have u3 : Xb.cell? ⟨wr.heap.size, 3, none⟩ = some (.int .i64 A) := (blk_cell Ob 3).trans rfl
          have v0 : Xb.cell? ⟨wC.heap.size, 0, none⟩ = some (.int .i64 z0) := (blk_cell Nb 0).trans rfl
          have v1 : Xb.cell? ⟨wC.heap.size, 1, none⟩ = some (.int .i64 z1) := (blk_cell Nb 1).trans rfl
          have v2 : Xb.cell? ⟨wC.heap.size, 2, none⟩ = some (.int .i64 z2) := (blk_cell Nb 2).trans rfl
          have v3 : Xb.cell? ⟨wC.heap.size, 3, none⟩ = some (.int .i64 A) := (blk_cell Nb 3).trans rfl
          clear Nb Ob
          go_wp2
          go_roundw
          case rel => exact ⟨.inr (.inr (.inr rfl)), Mb⟩
          case measure => simp [intOf]
        · generalize hXb : ((((wC.setCell ⟨Xa.heap.size, 0, none⟩ (.int .i64 z0)).setCell ⟨Xa.heap.size, 1, none⟩ (.int .i64 z1)).setCell ⟨Xa.heap.size, 2, none⟩ (.int .i64 z2)).setCell ⟨Xa.heap.size, 3, none⟩ (.int .i64 A)) = Xb
          have Nb : Xb.heap[Xa.heap.size]? = some (.cells #[.int .i64 z0, .int .i64 z1, .int .i64 z2, .int .i64 A] 45 (0, 0)) := by rw [← hXb]; exact blk_put (blk_put (blk_put (blk_put Tb 0 _ rfl) 1 _ rfl) 2 _ rfl) 3 _ rfl
          have Ob : Xb.heap[wr.heap.size]? = some (.cells #[.int .i64 z0, .int .i64 z1, .int .i64 z2, .int .i64 A] 45 (0, 0)) := by rw [← hXb]; exact blk_far (blk_far (blk_far (blk_far Rb (by show wr.heap.size ≠ Xa.heap.size; omega) _) (by show wr.heap.size ≠ Xa.heap.size; omega) _) (by show wr.heap.size ≠ Xa.heap.size; omega) _) (by show wr.heap.size ≠ Xa.heap.size; omega) _
          have Mb : TwF s w.heap.size lim0 l1 a0 b0 l4 R G B A w Xb := by rw [← hXb]; exact (((FC.set _ 0 _ Bb).set _ 1 _ Bb).set _ 2 _ Bb).set _ 3 _ Bb
          clear hXb Tb hzb0 hfb0 hzb1 hfb1 hzb2 hfb2 hzb3 hfb3
          clear jb pb0 pb1 pb2 pb3 djb dpb0 dpb1 dpb2 dpb3 ab ab0 ab1 ab2 ab3 eab eab0 eab1 eab2 eab3
          have u0 : Xb.cell? ⟨wr.heap.size, 0, none⟩ = some (.int .i64 z0) := (blk_cell Ob 0).trans rfl
          have u1 : Xb.cell? ⟨wr.heap.size, 1, none⟩ = some (.int .i64 z1) := (blk_cell Ob 1).trans rfl
          have u2 : Xb.cell? ⟨wr.heap.size, 2, none⟩ = some (.int .i64 z2) := (blk_cell Ob 2).trans rfl
          have u3 : Xb.cell? ⟨wr.heap.size, 3, none⟩ = some (.int .i64 A) := (blk_cell Ob 3).trans rfl
          have v0 : Xb.cell? ⟨Xa.heap.size, 0, none⟩ = some (.int .i64 z0) := (blk_cell Nb 0).trans rfl
          have v1 : Xb.cell? ⟨Xa.heap.size, 1, none⟩ = some (.int .i64 z1) := (blk_cell Nb 1).trans rfl
          have v2 : Xb.cell? ⟨Xa.heap.size, 2, none⟩ = some (.int .i64 z2) := (blk_cell Nb 2).trans rfl
          have v3 : Xb.cell? ⟨Xa.heap.size, 3, none⟩ = some (.int .i64 A) := (blk_cell Nb 3).trans rfl
          clear Nb Ob
          go_wp2
          go_roundw
          case rel => exact ⟨.inr (.inr (.inr rfl)), Mb⟩
          case measure => simp [intOf]
    · go_wp2
      go_ret
      exact ⟨rfl, F.bel⟩
theorem tw_calls {k : Int} {l : List Int} {P : Option Addr} {cp : Nat} {R G B A : Int} (hG : Good k l []) (V : Vld R G B A) (ha : A ≠ 0) (w : World) (hp : Ints w P l) (hcp : l.length ≤ cp) :
    Calls Try.prog 36 #[.int .i64 k, .slice P l.length cp, .slice none 0 0, .agg #[.int .i64 R, .int .i64 G, .int .i64 B, .int .i64 A]] w fun e w' => e = .returned (.tuple #[.agg #[.int .i64 (appPix k l [] R G B A).f0, .int .i64 (appPix k l [] R G B A).f1, .int .i64 (appPix k l [] R G B A).f2, .int .i64 A], .int .i64 0]) ∧ Below w.heap.size w w' := by
  have h := pixel_any k P cp l none 0 [] R G B A w hp hcp (stops_none w) (by simp)
  obtain ⟨e1, e2⟩ := pix_good hG V
  rw [e1, e2] at h
  have h3 := (app_keeps k l [] R G B A hG V ha).2
  unfold pv at h
  rw [h3] at h
  exact h
theorem tw_again {k : Int} {l : List Int} {P : Option Addr} {cp : Nat} {R G B A : Int} (hG : Good k l []) (V : Vld R G B A) (ha : A ≠ 0) (w : World) (hp : Ints w P l) (hcp : l.length ≤ cp) (ht : appPix k l [] (appPix k l [] R G B A).f0 (appPix k l [] R G B A).f1 (appPix k l [] R G B A).f2 A = appPix k l [] R G B A) :
    Calls Try.prog 36 #[.int .i64 k, .slice P l.length cp, .slice none 0 0, .agg #[.int .i64 (appPix k l [] R G B A).f0, .int .i64 (appPix k l [] R G B A).f1, .int .i64 (appPix k l [] R G B A).f2, .int .i64 A]] w fun e w' => e = .returned (.tuple #[.agg #[.int .i64 (appPix k l [] R G B A).f0, .int .i64 (appPix k l [] R G B A).f1, .int .i64 (appPix k l [] R G B A).f2, .int .i64 A], .int .i64 0]) ∧ Below w.heap.size w w' := by
  obtain ⟨v, h3⟩ := app_keeps k l [] R G B A hG V ha
  have V2 : Vld (appPix k l [] R G B A).f0 (appPix k l [] R G B A).f1 (appPix k l [] R G B A).f2 A := by
    have := v
    unfold VldP at this
    rwa [h3] at this
  have h := tw_calls (P := P) (cp := cp) hG V2 ha w hp hcp
  rw [ht] at h
  exact h
theorem u16_range {x : Int} (h : (Lit.int .u16 x).wf = true) : 0 ≤ x ∧ x ≤ 65535 := by
  have hmin : IntKind.u16.min = 0 := rfl
  have hmax : IntKind.u16.max = 65535 := rfl
  simp only [Lit.wf, Bool.and_eq_true, decide_eq_true_eq] at h
  omega
theorem u8_range {x : Int} (h : (Lit.int .u8 x).wf = true) : 0 ≤ x ∧ x ≤ 255 := by
  have hmin : IntKind.u8.min = 0 := rfl
  have hmax : IntKind.u8.max = 255 := rfl
  simp only [Lit.wf, Bool.and_eq_true, decide_eq_true_eq] at h
  omega
theorem twice_any (R G B A lim0 a0 b0 c0 lv : Int) (w : World) (w1 : (Lit.int .u16 lim0).wf = true) (w2 : (Lit.int .u16 a0).wf = true) (w3 : (Lit.int .u16 b0).wf = true) (w4 : (Lit.int .u16 c0).wf = true) (w5 : (Lit.int .u8 lv).wf = true) :
    Calls Try.prog 15 #[.agg #[.int .i64 R, .int .i64 G, .int .i64 B, .int .i64 A], .int .u16 lim0, .int .u16 a0, .int .u16 b0, .int .u16 c0, .int .u8 lv] w fun e w' => e = .returned (.bool true) ∧ Below w.heap.size w w' := by
  by_cases hv : vldB R G B A = true
  · by_cases ha : A < 1
    · exact twice_clear R G B A lim0 a0 b0 c0 lv w hv (decide_eq_true ha)
    · have V := (vldB_iff _ _ _ _).1 hv
      have hA : A ≠ 0 := by omega
      have r1 := u16_range w1
      have r2 := u16_range w2
      have r3 := u16_range w3
      have r4 := u16_range w4
      have r5 := u8_range w5
      have t1 := Int.tmod_eq_emod_of_nonneg (b := 255) r5.1
      have t2 := Int.tmod_eq_emod_of_nonneg (b := 65535) r4.1
      have E5 := wr (2 + lv.tmod 255) (by omega) (by omega)
      have E6 := wr (1 + c0.tmod 65535) (by omega) (by omega)
      have g6 := good_6 lim0 r1.1 r1.2
      have g7 := good_7 (2 + lv.tmod 255) (by omega) (by omega)
      have g9 := good_9 a0 b0 (1 + c0.tmod 65535) r2.1 r2.2 r3.1 r3.2 (by omega) (by omega)
      have VI : Vld (65535 - R) (65535 - G) (65535 - B) A := ⟨by have := V.r1; omega, by have := V.r0; omega, by have := V.g1; omega, by have := V.g0; omega, by have := V.b1; omega, by have := V.b0; omega, V.a0, V.a1⟩
      refine twice_main R G B A lim0 a0 b0 c0 lv (2 + lv.tmod 255) (1 + c0.tmod 65535) _ _ _ _ _ _ _ _ _ w hv (decide_eq_false ha) (wr _ (by omega) (by omega)) (wr _ (by omega) (by omega)) (wr _ (by omega) (by omega)) (wr _ (by omega) (by omega)) (wr _ (by omega) (by omega)) E5 E6 ⟨fun w1 => ?_⟩ ⟨fun w1 => ?_⟩
        ⟨fun s W F => tw_calls g6 V hA W (ints_blk F.c6 (by simp)) (by simp)⟩ ⟨fun s W F => tw_again g6 V hA W (ints_blk F.c6 (by simp)) (by simp) (twice_6 lim0 R G B A r1.2 V hA)⟩
        ⟨fun s W F => tw_calls g7 V hA W (ints_blk F.c7 (by simp)) (by simp)⟩ ⟨fun s W F => tw_again g7 V hA W (ints_blk F.c7 (by simp)) (by simp) (twice_7 _ R G B A (by omega) (by omega) hA)⟩
        ⟨fun s W F => tw_calls g9 V hA W (ints_blk F.c9 (by simp)) (by simp)⟩ ⟨fun s W F => tw_again g9 V hA W (ints_blk F.c9 (by simp)) (by simp) (twice_9 a0 b0 _ R G B A (by omega) hA)⟩
      · have h := tw_calls good_1 V hA w1 (ints_none w1) (Nat.le_refl _)
        rw [app_1 R G B A hA] at h
        exact h
      · have h := tw_calls good_1 VI hA w1 (ints_none w1) (Nat.le_refl _)
        rw [app_1 _ _ _ A hA] at h
        rw [show 65535 - (65535 - R) = R by omega, show 65535 - (65535 - G) = G by omega, show 65535 - (65535 - B) = B by omega] at h
        exact h
  · exact twice_invalid R G B A lim0 a0 b0 c0 lv w (by simpa using hv)
end Go.Proofs.Ytmgpmpiondciiaa.Adj
