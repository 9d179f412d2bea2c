/- imageeditorlaw17.AdjustPixels answers true. No condition but that the slices lie in memory. -/
import Derived.Test.YtmgpmpiondciiaaAdjRefPx
import Derived.Test.YtmgpmpiondciiaaAdjAwake
namespace Go.Proofs.Ytmgpmpiondciiaa.Adj
open Go.RowKit Go.Proofs.Ytmgpmpiondciiaa.PAdjustImages Go.Proofs.YtmgpmpiondciiaaW.PrintWords Go.Proofs.YtmgpmpiondciiaaW.PrintMore Go.Proofs.Ytmgpmpiondciiaa.Plain
set_option maxRecDepth 100000 in
set_option maxHeartbeats 3200000 in
theorem pixels_walk (k : Int) (P : Option Addr) (n cp : Nat) (S : Option Addr) (m cs : Nat) (R G B A v0 v1 v2 v3 e0 : Int) (w : World)
    (HP : Aside0 (∀ w1, Below w.heap.size w w1 → Calls Try.prog 36 #[.int .i64 k, .slice P n cp, .slice S m cs, .agg #[.int .i64 R, .int .i64 G, .int .i64 B, .int .i64 A]] w1 fun e w' => e = .returned (.tuple #[.agg #[.int .i64 v0, .int .i64 v1, .int .i64 v2, .int .i64 v3], .int .i64 e0]) ∧ Below w1.heap.size w1 w'))
    (HQ : Aside0 (∀ w1, Below w.heap.size w w1 → Calls Try.prog 39 #[.int .i64 k, .slice P n cp, .slice S m cs, .agg #[.int .i64 R, .int .i64 G, .int .i64 B, .int .i64 A]] w1 fun e w' => e = .returned (.tuple #[.agg #[.int .i64 v0, .int .i64 v1, .int .i64 v2, .int .i64 v3], .int .i64 e0]) ∧ Below w1.heap.size w1 w')) :
    Calls Try.prog 13 #[.int .i64 k, .slice P n cp, .slice S m cs, .agg #[.int .i64 R, .int .i64 G, .int .i64 B, .int .i64 A]] w fun e w' => e = .returned (.bool true) ∧ Below w.heap.size w w' := by
  go_enter Try.func13, Try.ntmps13
  go_wp2_with fail
  have X0 := blk_new w (.cells #[.int .i64 R, .int .i64 G, .int .i64 B, .int .i64 A] 45)
  have XB := below_alloc (Below.refl w.heap.size w) (.cells #[.int .i64 R, .int .i64 G, .int .i64 B, .int .i64 A] 45)
  refine (HP.out _ XB).mono ?_
  rintro e w1 ⟨rfl, hb⟩
  have Y0 := blk_alloc (blk_below X0 hb) (.cells #[.int .i64 v0, .int .i64 v1, .int .i64 v2, .int .i64 v3] 45)
  have Y1 := blk_new w1 (.cells #[.int .i64 v0, .int .i64 v1, .int .i64 v2, .int .i64 v3] 45)
  have YB := below_alloc (step XB hb) (.cells #[.int .i64 v0, .int .i64 v1, .int .i64 v2, .int .i64 v3] 45)
  clear X0 XB hb
  have p0 : (w1.alloc (.cells #[.int .i64 v0, .int .i64 v1, .int .i64 v2, .int .i64 v3] 45)).cell? ⟨w.heap.size, 0, none⟩ = some (.int .i64 R) := (blk_cell Y0 0).trans rfl
  have p1 : (w1.alloc (.cells #[.int .i64 v0, .int .i64 v1, .int .i64 v2, .int .i64 v3] 45)).cell? ⟨w.heap.size, 1, none⟩ = some (.int .i64 G) := (blk_cell Y0 1).trans rfl
  have p2 : (w1.alloc (.cells #[.int .i64 v0, .int .i64 v1, .int .i64 v2, .int .i64 v3] 45)).cell? ⟨w.heap.size, 2, none⟩ = some (.int .i64 B) := (blk_cell Y0 2).trans rfl
  have p3 : (w1.alloc (.cells #[.int .i64 v0, .int .i64 v1, .int .i64 v2, .int .i64 v3] 45)).cell? ⟨w.heap.size, 3, none⟩ = some (.int .i64 A) := (blk_cell Y0 3).trans rfl
  dsimp only
  go_wp2_with fail
  refine (HQ.out _ YB).mono ?_
  rintro e w2 ⟨rfl, hb⟩
  have Z1 := blk_alloc (blk_below Y1 hb) (.cells #[.int .i64 v0, .int .i64 v1, .int .i64 v2, .int .i64 v3] 45)
  have Z2 := blk_new w2 (.cells #[.int .i64 v0, .int .i64 v1, .int .i64 v2, .int .i64 v3] 45)
  have ZB := below_alloc (step YB hb) (.cells #[.int .i64 v0, .int .i64 v1, .int .i64 v2, .int .i64 v3] 45)
  clear p0 p1 p2 p3 Y0 Y1 YB hb
  dsimp only
  go_wp2_with fail
  refine (awake_any _).mono ?_
  rintro e w3 ⟨rfl, hb⟩
  have V1 := blk_below Z1 hb
  have V2 := blk_below Z2 hb
  have VB := Aside0.mk (step ZB hb)
  clear Z1 Z2 ZB hb
  have p0 : w3.cell? ⟨w1.heap.size, 0, none⟩ = some (.int .i64 v0) := (blk_cell V1 0).trans rfl
  have p1 : w3.cell? ⟨w1.heap.size, 1, none⟩ = some (.int .i64 v1) := (blk_cell V1 1).trans rfl
  have p2 : w3.cell? ⟨w1.heap.size, 2, none⟩ = some (.int .i64 v2) := (blk_cell V1 2).trans rfl
  have p3 : w3.cell? ⟨w1.heap.size, 3, none⟩ = some (.int .i64 v3) := (blk_cell V1 3).trans rfl
  have q0 : w3.cell? ⟨w2.heap.size, 0, none⟩ = some (.int .i64 v0) := (blk_cell V2 0).trans rfl
  have q1 : w3.cell? ⟨w2.heap.size, 1, none⟩ = some (.int .i64 v1) := (blk_cell V2 1).trans rfl
  have q2 : w3.cell? ⟨w2.heap.size, 2, none⟩ = some (.int .i64 v2) := (blk_cell V2 2).trans rfl
  have q3 : w3.cell? ⟨w2.heap.size, 3, none⟩ = some (.int .i64 v3) := (blk_cell V2 3).trans rfl
  clear V1 V2
  dsimp only
  go_wp2
  go_ret
  exact ⟨rfl, VB.out⟩
theorem pixels_any (k : Int) (P : Option Addr) (cp : Nat) (l : List Int) (S : Option Addr) (cs : Nat) (s : List S74) (R G B A : Int) (w : World) (hp : Ints w P l) (hcp : l.length ≤ cp) (hs : Kd.C k74 w S s.length s) (hcs : s.length ≤ cs) :
    Calls Try.prog 13 #[.int .i64 k, .slice P l.length cp, .slice S s.length cs, .agg #[.int .i64 R, .int .i64 G, .int .i64 B, .int .i64 A]] w fun e w' => e = .returned (.bool true) ∧ Below w.heap.size w w' :=
  pixels_walk k P l.length cp S s.length cs R G B A _ _ _ _ _ w ⟨fun w1 hb => pixel_any k P cp l S cs s R G B A w1 (Kd.C_below hp hb) hcp (Kd.C_below hs hb) hcs⟩ ⟨fun w1 hb => rpixel_any k P cp l S cs s R G B A w1 (Kd.C_below hp hb) (Kd.C_below hs hb) hcs⟩
end Go.Proofs.Ytmgpmpiondciiaa.Adj
