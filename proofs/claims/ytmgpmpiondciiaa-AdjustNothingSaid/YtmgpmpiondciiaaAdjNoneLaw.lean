/- imageeditorlaw17.AdjustNothing answers true. No condition. -/
import Derived.Test.YtmgpmpiondciiaaAdjNone
import Derived.Test.YtmgpmpiondciiaaAdjAwake
namespace Go.Proofs.Ytmgpmpiondciiaa.Adj
open Go.RowKit Go.Proofs.Ytmgpmpiondciiaa.PAdjustImages Go.Proofs.YtmgpmpiondciiaaW.PrintWords Go.Proofs.YtmgpmpiondciiaaW.PrintMore Go.Proofs.Ytmgpmpiondciiaa.Plain
/-- What lies in memory all through the loop: the kinds, and the pixel. -/
structure NoF (s b : Nat) (R G B A : Int) (w W : World) : Prop where
  kinds : W.heap[s]? = some (.cells #[.int .i64 2, .int .i64 3, .int .i64 4, .int .i64 8, .int .i64 11] 3 (0, 0))
  px : W.heap[b]? = some (.cells #[.int .i64 R, .int .i64 G, .int .i64 B, .int .i64 A] 45 (0, 0))
  bel : Below w.heap.size w W
theorem NoF.below {s b : Nat} {R G B A : Int} {w W W1 : World} (h : NoF s b R G B A w W) (hb : Below W.heap.size W W1) : NoF s b R G B A w W1 := ⟨blk_below h.kinds hb, blk_below h.px hb, Adj.step h.bel hb⟩
set_option maxRecDepth 100000 in
set_option maxHeartbeats 8000000 in
theorem none_invalid (R G B A : Int) (w : World) (h : vldB R G B A = false) :
    Calls Try.prog 19 #[.agg #[.int .i64 R, .int .i64 G, .int .i64 B, .int .i64 A]] w fun e w' => e = .returned (.bool true) ∧ Below w.heap.size w w' := by
  go_enter Try.func19, Try.ntmps19
  go_wp2_with fail
  have X0 := blk_new w (.cells #[.int .i64 R, .int .i64 G, .int .i64 B, .int .i64 A] 45)
  have XB := below_alloc (Below.refl w.heap.size w) (.cells #[.int .i64 R, .int .i64 G, .int .i64 B, .int .i64 A] 45)
  refine (awake_any _).mono ?_
  rintro e w1 ⟨rfl, hb⟩
  have Y0 := blk_below X0 hb
  have YB := step XB hb
  clear X0 XB hb
  have p0 : w1.cell? ⟨w.heap.size, 0, none⟩ = some (.int .i64 R) := (blk_cell Y0 0).trans rfl
  have p1 : w1.cell? ⟨w.heap.size, 1, none⟩ = some (.int .i64 G) := (blk_cell Y0 1).trans rfl
  have p2 : w1.cell? ⟨w.heap.size, 2, none⟩ = some (.int .i64 B) := (blk_cell Y0 2).trans rfl
  have p3 : w1.cell? ⟨w.heap.size, 3, none⟩ = some (.int .i64 A) := (blk_cell Y0 3).trans rfl
  dsimp only
  go_wp2_with fail
  refine (Valid_any R G B A _).mono ?_
  rw [h]
  rintro e w2 ⟨rfl, hb⟩
  have Z0 := blk_below Y0 hb
  have ZB := Aside0.mk (step YB hb)
  clear Y0 YB hb p0 p1 p2 p3
  have p0 : w2.cell? ⟨w.heap.size, 0, none⟩ = some (.int .i64 R) := (blk_cell Z0 0).trans rfl
  have p1 : w2.cell? ⟨w.heap.size, 1, none⟩ = some (.int .i64 G) := (blk_cell Z0 1).trans rfl
  have p2 : w2.cell? ⟨w.heap.size, 2, none⟩ = some (.int .i64 B) := (blk_cell Z0 2).trans rfl
  have p3 : w2.cell? ⟨w.heap.size, 3, none⟩ = some (.int .i64 A) := (blk_cell Z0 3).trans rfl
  dsimp only
  go_wp2_with fail
  refine (awake_any _).mono ?_
  rintro e w3 ⟨rfl, hb⟩
  have VB := Aside0.mk (step ZB.out hb)
  clear Z0 ZB hb p0 p1 p2 p3
  dsimp only
  go_wp2
  go_ret
  exact ⟨rfl, VB.out⟩
set_option maxRecDepth 100000 in
set_option maxHeartbeats 8000000 in
theorem none_clear (R G B A : Int) (w : World) (h : vldB R G B A = true) (h1 : decide (A < 1) = true) :
    Calls Try.prog 19 #[.agg #[.int .i64 R, .int .i64 G, .int .i64 B, .int .i64 A]] w fun e w' => e = .returned (.bool true) ∧ Below w.heap.size w w' := by
  go_enter Try.func19, Try.ntmps19
  go_wp2_with fail
  have X0 := blk_new w (.cells #[.int .i64 R, .int .i64 G, .int .i64 B, .int .i64 A] 45)
  have XB := below_alloc (Below.refl w.heap.size w) (.cells #[.int .i64 R, .int .i64 G, .int .i64 B, .int .i64 A] 45)
  refine (awake_any _).mono ?_
  rintro e w1 ⟨rfl, hb⟩
  have Y0 := blk_below X0 hb
  have YB := step XB hb
  clear X0 XB hb
  have p0 : w1.cell? ⟨w.heap.size, 0, none⟩ = some (.int .i64 R) := (blk_cell Y0 0).trans rfl
  have p1 : w1.cell? ⟨w.heap.size, 1, none⟩ = some (.int .i64 G) := (blk_cell Y0 1).trans rfl
  have p2 : w1.cell? ⟨w.heap.size, 2, none⟩ = some (.int .i64 B) := (blk_cell Y0 2).trans rfl
  have p3 : w1.cell? ⟨w.heap.size, 3, none⟩ = some (.int .i64 A) := (blk_cell Y0 3).trans rfl
  dsimp only
  go_wp2_with fail
  refine (Valid_any R G B A _).mono ?_
  rw [h]
  rintro e w2 ⟨rfl, hb⟩
  have Z0 := blk_below Y0 hb
  have ZB := Aside0.mk (step YB hb)
  clear Y0 YB hb p0 p1 p2 p3
  have p0 : w2.cell? ⟨w.heap.size, 0, none⟩ = some (.int .i64 R) := (blk_cell Z0 0).trans rfl
  have p1 : w2.cell? ⟨w.heap.size, 1, none⟩ = some (.int .i64 G) := (blk_cell Z0 1).trans rfl
  have p2 : w2.cell? ⟨w.heap.size, 2, none⟩ = some (.int .i64 B) := (blk_cell Z0 2).trans rfl
  have p3 : w2.cell? ⟨w.heap.size, 3, none⟩ = some (.int .i64 A) := (blk_cell Z0 3).trans rfl
  dsimp only
  go_wp2_with fail
  refine (awake_any _).mono ?_
  rintro e w3 ⟨rfl, hb⟩
  have VB := Aside0.mk (step ZB.out hb)
  clear Z0 ZB hb p0 p1 p2 p3
  dsimp only
  go_wp2
  go_ret
  exact ⟨rfl, VB.out⟩
set_option maxRecDepth 100000 in
set_option maxHeartbeats 8000000 in
theorem none_main (R G B A : Int) (w : World) (hv : vldB R G B A = true) (h1 : decide (A < 1) = false)
    (H0 : Aside0 (∀ g W, W.heap[g]? = some (.cells #[.int .i64 0, .int .i64 65535, .int .i64 16, .int .i64 0, .int .i64 65535] 3 (0, 0)) → Calls Try.prog 36 #[.int .i64 2, .slice (some ⟨g, 0, none⟩) 5 5, .slice none 0 0, .agg #[.int .i64 R, .int .i64 G, .int .i64 B, .int .i64 A]] W fun e w' => e = .returned (.tuple #[.agg #[.int .i64 R, .int .i64 G, .int .i64 B, .int .i64 A], .int .i64 0]) ∧ Below W.heap.size W w'))
    (H1 : Aside0 (∀ g W, W.heap[g]? = some (.cells #[.int .i64 0, .int .i64 0, .int .i64 65535, .int .i64 65535] 3 (0, 0)) → Calls Try.prog 36 #[.int .i64 3, .slice (some ⟨g, 0, none⟩) 4 4, .slice none 0 0, .agg #[.int .i64 R, .int .i64 G, .int .i64 B, .int .i64 A]] W fun e w' => e = .returned (.tuple #[.agg #[.int .i64 R, .int .i64 G, .int .i64 B, .int .i64 A], .int .i64 0]) ∧ Below W.heap.size W w'))
    (H2 : Aside0 (∀ g W, W.heap[g]? = some (.cells #[.int .i64 0, .int .i64 0] 3 (0, 0)) → Calls Try.prog 36 #[.int .i64 4, .slice (some ⟨g, 0, none⟩) 2 2, .slice none 0 0, .agg #[.int .i64 R, .int .i64 G, .int .i64 B, .int .i64 A]] W fun e w' => e = .returned (.tuple #[.agg #[.int .i64 R, .int .i64 G, .int .i64 B, .int .i64 A], .int .i64 0]) ∧ Below W.heap.size W w'))
    (H3 : Aside0 (∀ g W, W.heap[g]? = some (.cells #[.int .i64 65535, .int .i64 0, .int .i64 0, .int .i64 0, .int .i64 65535, .int .i64 0, .int .i64 0, .int .i64 0, .int .i64 65535] 3 (0, 0)) → Calls Try.prog 36 #[.int .i64 8, .slice (some ⟨g, 0, none⟩) 9 9, .slice none 0 0, .agg #[.int .i64 R, .int .i64 G, .int .i64 B, .int .i64 A]] W fun e w' => e = .returned (.tuple #[.agg #[.int .i64 R, .int .i64 G, .int .i64 B, .int .i64 A], .int .i64 0]) ∧ Below W.heap.size W w'))
    (H4 : Aside0 (∀ g W, W.heap[g]? = some (.cells #[.int .i64 0, .int .i64 0] 3 (0, 0)) → Calls Try.prog 36 #[.int .i64 11, .slice (some ⟨g, 0, none⟩) 2 2, .slice none 0 0, .agg #[.int .i64 R, .int .i64 G, .int .i64 B, .int .i64 A]] W fun e w' => e = .returned (.tuple #[.agg #[.int .i64 R, .int .i64 G, .int .i64 B, .int .i64 A], .int .i64 0]) ∧ Below W.heap.size W w')) :
    Calls Try.prog 19 #[.agg #[.int .i64 R, .int .i64 G, .int .i64 B, .int .i64 A]] w fun e w' => e = .returned (.bool true) ∧ Below w.heap.size w w' := by
  go_enter Try.func19, Try.ntmps19
  go_wp2_with fail
  have X0 := blk_new w (.cells #[.int .i64 R, .int .i64 G, .int .i64 B, .int .i64 A] 45)
  have XB := below_alloc (Below.refl w.heap.size w) (.cells #[.int .i64 R, .int .i64 G, .int .i64 B, .int .i64 A] 45)
  refine (awake_any _).mono ?_
  rintro e w1 ⟨rfl, hb⟩
  have Y0 := blk_below X0 hb
  have YB := step XB hb
  clear X0 XB hb
  have p0 : w1.cell? ⟨w.heap.size, 0, none⟩ = some (.int .i64 R) := (blk_cell Y0 0).trans rfl
  have p1 : w1.cell? ⟨w.heap.size, 1, none⟩ = some (.int .i64 G) := (blk_cell Y0 1).trans rfl
  have p2 : w1.cell? ⟨w.heap.size, 2, none⟩ = some (.int .i64 B) := (blk_cell Y0 2).trans rfl
  have p3 : w1.cell? ⟨w.heap.size, 3, none⟩ = some (.int .i64 A) := (blk_cell Y0 3).trans rfl
  dsimp only
  go_wp2_with fail
  refine (Valid_any R G B A _).mono ?_
  rw [hv]
  rintro e w2 ⟨rfl, hb⟩
  have Z0 := blk_below Y0 hb
  have ZB := Aside0.mk (step YB hb)
  clear Y0 YB hb p0 p1 p2 p3
  have p0 : w2.cell? ⟨w.heap.size, 0, none⟩ = some (.int .i64 R) := (blk_cell Z0 0).trans rfl
  have p1 : w2.cell? ⟨w.heap.size, 1, none⟩ = some (.int .i64 G) := (blk_cell Z0 1).trans rfl
  have p2 : w2.cell? ⟨w.heap.size, 2, none⟩ = some (.int .i64 B) := (blk_cell Z0 2).trans rfl
  have p3 : w2.cell? ⟨w.heap.size, 3, none⟩ = some (.int .i64 A) := (blk_cell Z0 3).trans rfl
  dsimp only
  go_wp2
  obtain ⟨s, hs⟩ : ∃ s, w2.heap.size = s := ⟨_, rfl⟩
  have F : NoF s w.heap.size R G B A w (w2.alloc (.cells #[.int .i64 2, .int .i64 3, .int .i64 4, .int .i64 8, .int .i64 11] 3)) := ⟨by rw [← hs]; exact blk_new w2 _, blk_alloc Z0 _, below_alloc ZB.out _⟩
  rw [hs]
  clear p0 p1 p2 p3 Z0 ZB hs
  go_loopw [24] (fun a wr => (a = .int .i64 0 ∨ a = .int .i64 1 ∨ a = .int .i64 2 ∨ a = .int .i64 3 ∨ a = .int .i64 4 ∨ a = .int .i64 5) ∧ NoF s w.heap.size R G B A w wr) (fun a _ => 5 - (intOf a).toNat)
  case atStart => exact ⟨.inl rfl, F⟩
  case round =>
    clear F
    obtain ⟨hi, F⟩ := hrel
    rcases hi with rfl | rfl | rfl | rfl | rfl | rfl
    · have k0 : wr.cell? ⟨s, 0, none⟩ = some (.int .i64 2) := (blk_cell F.kinds 0).trans rfl
      go_wp2_with fail
      refine (default_2 wr).mono ?_
      rintro e wA ⟨rfl, hn, hb⟩
      have FA := F.below hb
      have p0 : wA.cell? ⟨w.heap.size, 0, none⟩ = some (.int .i64 R) := (blk_cell FA.px 0).trans rfl
      have p1 : wA.cell? ⟨w.heap.size, 1, none⟩ = some (.int .i64 G) := (blk_cell FA.px 1).trans rfl
      have p2 : wA.cell? ⟨w.heap.size, 2, none⟩ = some (.int .i64 B) := (blk_cell FA.px 2).trans rfl
      have p3 : wA.cell? ⟨w.heap.size, 3, none⟩ = some (.int .i64 A) := (blk_cell FA.px 3).trans rfl
      dsimp only
      go_wp2_with fail
      refine (H0.out _ wA hn).mono ?_
      rintro e wB ⟨rfl, hc⟩
      have FP := FA.below hc
      have FB := FP.below (below_alloc (Below.refl _ wB) (.cells #[.int .i64 R, .int .i64 G, .int .i64 B, .int .i64 A] 45))
      clear p0 p1 p2 p3
      have p0 := fun o => kept (below_alloc (Below.refl _ wB) o) ((blk_cell FP.px 0).trans rfl : wB.cell? ⟨w.heap.size, 0, none⟩ = some (.int .i64 R))
      have p1 := fun o => kept (below_alloc (Below.refl _ wB) o) ((blk_cell FP.px 1).trans rfl : wB.cell? ⟨w.heap.size, 1, none⟩ = some (.int .i64 G))
      have p2 := fun o => kept (below_alloc (Below.refl _ wB) o) ((blk_cell FP.px 2).trans rfl : wB.cell? ⟨w.heap.size, 2, none⟩ = some (.int .i64 B))
      have p3 := fun o => kept (below_alloc (Below.refl _ wB) o) ((blk_cell FP.px 3).trans rfl : wB.cell? ⟨w.heap.size, 3, none⟩ = some (.int .i64 A))
      clear hn hb hc
      dsimp only
      go_wp2
      go_roundw
      case rel => exact ⟨.inr (.inl rfl), FB⟩
      case measure => simp [intOf]
    · have k1 : wr.cell? ⟨s, 1, none⟩ = some (.int .i64 3) := (blk_cell F.kinds 1).trans rfl
      go_wp2_with fail
      refine (default_3 wr).mono ?_
      rintro e wA ⟨rfl, hn, hb⟩
      have FA := F.below hb
      have p0 : wA.cell? ⟨w.heap.size, 0, none⟩ = some (.int .i64 R) := (blk_cell FA.px 0).trans rfl
      have p1 : wA.cell? ⟨w.heap.size, 1, none⟩ = some (.int .i64 G) := (blk_cell FA.px 1).trans rfl
      have p2 : wA.cell? ⟨w.heap.size, 2, none⟩ = some (.int .i64 B) := (blk_cell FA.px 2).trans rfl
      have p3 : wA.cell? ⟨w.heap.size, 3, none⟩ = some (.int .i64 A) := (blk_cell FA.px 3).trans rfl
      dsimp only
      go_wp2_with fail
      refine (H1.out _ wA hn).mono ?_
      rintro e wB ⟨rfl, hc⟩
      have FP := FA.below hc
      have FB := FP.below (below_alloc (Below.refl _ wB) (.cells #[.int .i64 R, .int .i64 G, .int .i64 B, .int .i64 A] 45))
      clear p0 p1 p2 p3
      have p0 := fun o => kept (below_alloc (Below.refl _ wB) o) ((blk_cell FP.px 0).trans rfl : wB.cell? ⟨w.heap.size, 0, none⟩ = some (.int .i64 R))
      have p1 := fun o => kept (below_alloc (Below.refl _ wB) o) ((blk_cell FP.px 1).trans rfl : wB.cell? ⟨w.heap.size, 1, none⟩ = some (.int .i64 G))
      have p2 := fun o => kept (below_alloc (Below.refl _ wB) o) ((blk_cell FP.px 2).trans rfl : wB.cell? ⟨w.heap.size, 2, none⟩ = some (.int .i64 B))
      have p3 := fun o => kept (below_alloc (Below.refl _ wB) o) ((blk_cell FP.px 3).trans rfl : wB.cell? ⟨w.heap.size, 3, none⟩ = some (.int .i64 A))
      clear hn hb hc
      dsimp only
      go_wp2
      go_roundw
      case rel => exact ⟨.inr (.inr (.inl rfl)), FB⟩
      case measure => simp [intOf]
    · have k2 : wr.cell? ⟨s, 2, none⟩ = some (.int .i64 4) := (blk_cell F.kinds 2).trans rfl
      go_wp2_with fail
      refine (default_4 wr).mono ?_
      rintro e wA ⟨rfl, hn, hb⟩
      have FA := F.below hb
      have p0 : wA.cell? ⟨w.heap.size, 0, none⟩ = some (.int .i64 R) := (blk_cell FA.px 0).trans rfl
      have p1 : wA.cell? ⟨w.heap.size, 1, none⟩ = some (.int .i64 G) := (blk_cell FA.px 1).trans rfl
      have p2 : wA.cell? ⟨w.heap.size, 2, none⟩ = some (.int .i64 B) := (blk_cell FA.px 2).trans rfl
      have p3 : wA.cell? ⟨w.heap.size, 3, none⟩ = some (.int .i64 A) := (blk_cell FA.px 3).trans rfl
      dsimp only
      go_wp2_with fail
      refine (H2.out _ wA hn).mono ?_
      rintro e wB ⟨rfl, hc⟩
      have FP := FA.below hc
      have FB := FP.below (below_alloc (Below.refl _ wB) (.cells #[.int .i64 R, .int .i64 G, .int .i64 B, .int .i64 A] 45))
      clear p0 p1 p2 p3
      have p0 := fun o => kept (below_alloc (Below.refl _ wB) o) ((blk_cell FP.px 0).trans rfl : wB.cell? ⟨w.heap.size, 0, none⟩ = some (.int .i64 R))
      have p1 := fun o => kept (below_alloc (Below.refl _ wB) o) ((blk_cell FP.px 1).trans rfl : wB.cell? ⟨w.heap.size, 1, none⟩ = some (.int .i64 G))
      have p2 := fun o => kept (below_alloc (Below.refl _ wB) o) ((blk_cell FP.px 2).trans rfl : wB.cell? ⟨w.heap.size, 2, none⟩ = some (.int .i64 B))
      have p3 := fun o => kept (below_alloc (Below.refl _ wB) o) ((blk_cell FP.px 3).trans rfl : wB.cell? ⟨w.heap.size, 3, none⟩ = some (.int .i64 A))
      clear hn hb hc
      dsimp only
      go_wp2
      go_roundw
      case rel => exact ⟨.inr (.inr (.inr (.inl rfl))), FB⟩
      case measure => simp [intOf]
    · have k3 : wr.cell? ⟨s, 3, none⟩ = some (.int .i64 8) := (blk_cell F.kinds 3).trans rfl
      go_wp2_with fail
      refine (default_8 wr).mono ?_
      rintro e wA ⟨rfl, hn, hb⟩
      have FA := F.below hb
      have p0 : wA.cell? ⟨w.heap.size, 0, none⟩ = some (.int .i64 R) := (blk_cell FA.px 0).trans rfl
      have p1 : wA.cell? ⟨w.heap.size, 1, none⟩ = some (.int .i64 G) := (blk_cell FA.px 1).trans rfl
      have p2 : wA.cell? ⟨w.heap.size, 2, none⟩ = some (.int .i64 B) := (blk_cell FA.px 2).trans rfl
      have p3 : wA.cell? ⟨w.heap.size, 3, none⟩ = some (.int .i64 A) := (blk_cell FA.px 3).trans rfl
      dsimp only
      go_wp2_with fail
      refine (H3.out _ wA hn).mono ?_
      rintro e wB ⟨rfl, hc⟩
      have FP := FA.below hc
      have FB := FP.below (below_alloc (Below.refl _ wB) (.cells #[.int .i64 R, .int .i64 G, .int .i64 B, .int .i64 A] 45))
      clear p0 p1 p2 p3
      have p0 := fun o => kept (below_alloc (Below.refl _ wB) o) ((blk_cell FP.px 0).trans rfl : wB.cell? ⟨w.heap.size, 0, none⟩ = some (.int .i64 R))
      have p1 := fun o => kept (below_alloc (Below.refl _ wB) o) ((blk_cell FP.px 1).trans rfl : wB.cell? ⟨w.heap.size, 1, none⟩ = some (.int .i64 G))
      have p2 := fun o => kept (below_alloc (Below.refl _ wB) o) ((blk_cell FP.px 2).trans rfl : wB.cell? ⟨w.heap.size, 2, none⟩ = some (.int .i64 B))
      have p3 := fun o => kept (below_alloc (Below.refl _ wB) o) ((blk_cell FP.px 3).trans rfl : wB.cell? ⟨w.heap.size, 3, none⟩ = some (.int .i64 A))
      clear hn hb hc
      dsimp only
      go_wp2
      go_roundw
      case rel => exact ⟨.inr (.inr (.inr (.inr (.inl rfl)))), FB⟩
      case measure => simp [intOf]
    · have k4 : wr.cell? ⟨s, 4, none⟩ = some (.int .i64 11) := (blk_cell F.kinds 4).trans rfl
      go_wp2_with fail
      refine (default_11 wr).mono ?_
      rintro e wA ⟨rfl, hn, hb⟩
      have FA := F.below hb
      have p0 : wA.cell? ⟨w.heap.size, 0, none⟩ = some (.int .i64 R) := (blk_cell FA.px 0).trans rfl
      have p1 : wA.cell? ⟨w.heap.size, 1, none⟩ = some (.int .i64 G) := (blk_cell FA.px 1).trans rfl
      have p2 : wA.cell? ⟨w.heap.size, 2, none⟩ = some (.int .i64 B) := (blk_cell FA.px 2).trans rfl
      have p3 : wA.cell? ⟨w.heap.size, 3, none⟩ = some (.int .i64 A) := (blk_cell FA.px 3).trans rfl
      dsimp only
      go_wp2_with fail
      refine (H4.out _ wA hn).mono ?_
      rintro e wB ⟨rfl, hc⟩
      have FP := FA.below hc
      have FB := FP.below (below_alloc (Below.refl _ wB) (.cells #[.int .i64 R, .int .i64 G, .int .i64 B, .int .i64 A] 45))
      clear p0 p1 p2 p3
      have p0 := fun o => kept (below_alloc (Below.refl _ wB) o) ((blk_cell FP.px 0).trans rfl : wB.cell? ⟨w.heap.size, 0, none⟩ = some (.int .i64 R))
      have p1 := fun o => kept (below_alloc (Below.refl _ wB) o) ((blk_cell FP.px 1).trans rfl : wB.cell? ⟨w.heap.size, 1, none⟩ = some (.int .i64 G))
      have p2 := fun o => kept (below_alloc (Below.refl _ wB) o) ((blk_cell FP.px 2).trans rfl : wB.cell? ⟨w.heap.size, 2, none⟩ = some (.int .i64 B))
      have p3 := fun o => kept (below_alloc (Below.refl _ wB) o) ((blk_cell FP.px 3).trans rfl : wB.cell? ⟨w.heap.size, 3, none⟩ = some (.int .i64 A))
      clear hn hb hc
      dsimp only
      go_wp2
      go_roundw
      case rel => exact ⟨.inr (.inr (.inr (.inr (.inr (rfl))))), FB⟩
      case measure => simp [intOf]
    · go_wp2
      go_ret
      exact ⟨rfl, F.bel⟩
theorem nothing_any (R G B A : Int) (w : World) :
    Calls Try.prog 19 #[.agg #[.int .i64 R, .int .i64 G, .int .i64 B, .int .i64 A]] w fun e w' => e = .returned (.bool true) ∧ Below w.heap.size w w' := by
  by_cases hv : vldB R G B A = true
  · by_cases ha : A < 1
    · exact none_clear R G B A w hv (decide_eq_true ha)
    · have V := (vldB_iff _ _ _ _).1 hv
      have hA : A ≠ 0 := by omega
      have h0 := fun (g : Nat) (W : World) (hn : W.heap[g]? = some (.cells #[.int .i64 0, .int .i64 65535, .int .i64 16, .int .i64 0, .int .i64 65535] 3 (0, 0))) => pixel_any 2 (some ⟨g, 0, none⟩) 5 [0, 65535, 16, 0, 65535] none 0 [] R G B A W (ints_blk hn (by decide)) (by decide) (stops_none W) (by decide)
      rw [(none_pix 2 [0, 65535, 16, 0, 65535] R G B A V hA (.inl ⟨rfl, rfl⟩)).1, (none_pix 2 [0, 65535, 16, 0, 65535] R G B A V hA (.inl ⟨rfl, rfl⟩)).2] at h0
      have h1 := fun (g : Nat) (W : World) (hn : W.heap[g]? = some (.cells #[.int .i64 0, .int .i64 0, .int .i64 65535, .int .i64 65535] 3 (0, 0))) => pixel_any 3 (some ⟨g, 0, none⟩) 4 [0, 0, 65535, 65535] none 0 [] R G B A W (ints_blk hn (by decide)) (by decide) (stops_none W) (by decide)
      rw [(none_pix 3 [0, 0, 65535, 65535] R G B A V hA (.inr (.inl ⟨rfl, rfl⟩))).1, (none_pix 3 [0, 0, 65535, 65535] R G B A V hA (.inr (.inl ⟨rfl, rfl⟩))).2] at h1
      have h2 := fun (g : Nat) (W : World) (hn : W.heap[g]? = some (.cells #[.int .i64 0, .int .i64 0] 3 (0, 0))) => pixel_any 4 (some ⟨g, 0, none⟩) 2 [0, 0] none 0 [] R G B A W (ints_blk hn (by decide)) (by decide) (stops_none W) (by decide)
      rw [(none_pix 4 [0, 0] R G B A V hA (.inr (.inr (.inl ⟨rfl, rfl⟩)))).1, (none_pix 4 [0, 0] R G B A V hA (.inr (.inr (.inl ⟨rfl, rfl⟩)))).2] at h2
      have h3 := fun (g : Nat) (W : World) (hn : W.heap[g]? = some (.cells #[.int .i64 65535, .int .i64 0, .int .i64 0, .int .i64 0, .int .i64 65535, .int .i64 0, .int .i64 0, .int .i64 0, .int .i64 65535] 3 (0, 0))) => pixel_any 8 (some ⟨g, 0, none⟩) 9 [65535, 0, 0, 0, 65535, 0, 0, 0, 65535] none 0 [] R G B A W (ints_blk hn (by decide)) (by decide) (stops_none W) (by decide)
      rw [(none_pix 8 [65535, 0, 0, 0, 65535, 0, 0, 0, 65535] R G B A V hA (.inr (.inr (.inr (.inl ⟨rfl, rfl⟩))))).1, (none_pix 8 [65535, 0, 0, 0, 65535, 0, 0, 0, 65535] R G B A V hA (.inr (.inr (.inr (.inl ⟨rfl, rfl⟩))))).2] at h3
      have h4 := fun (g : Nat) (W : World) (hn : W.heap[g]? = some (.cells #[.int .i64 0, .int .i64 0] 3 (0, 0))) => pixel_any 11 (some ⟨g, 0, none⟩) 2 [0, 0] none 0 [] R G B A W (ints_blk hn (by decide)) (by decide) (stops_none W) (by decide)
      rw [(none_pix 11 [0, 0] R G B A V hA (.inr (.inr (.inr (.inr (⟨rfl, rfl⟩)))))).1, (none_pix 11 [0, 0] R G B A V hA (.inr (.inr (.inr (.inr (⟨rfl, rfl⟩)))))).2] at h4
      exact none_main R G B A w hv (decide_eq_false ha) ⟨h0⟩ ⟨h1⟩ ⟨h2⟩ ⟨h3⟩ ⟨h4⟩
  · exact none_invalid R G B A w (by simpa using hv)
end Go.Proofs.Ytmgpmpiondciiaa.Adj
