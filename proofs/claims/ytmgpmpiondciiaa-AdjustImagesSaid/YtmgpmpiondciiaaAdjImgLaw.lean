/- imageeditorlaw17.AdjustImages answers true. No condition but that the slices lie in memory. -/
import Derived.Test.YtmgpmpiondciiaaAdjRefImg
import Derived.Test.YtmgpmpiondciiaaAdjEachLaw
namespace Go.Proofs.Ytmgpmpiondciiaa.Adj
open Go.RowKit Go.Proofs.Ytmgpmpiondciiaa.PAdjustImages Go.Proofs.YtmgpmpiondciiaaW.PrintWords Go.Proofs.YtmgpmpiondciiaaW.PrintMore Go.Proofs.Ytmgpmpiondciiaa.Plain
set_option maxRecDepth 100000 in
set_option maxHeartbeats 3200000 in
theorem images_walk (k : Int) (P : Option Addr) (n cp : Nat) (S : Option Addr) (m cs : Nat) (X Y : Int) (A : Option Addr) (ca : Nat) (p : List S45) (X1 Y1 e0 : Int) (q : List S45) (w : World)
    (HP : Aside0 (∀ w1, Below w.heap.size w w1 → Calls Try.prog 32 #[.int .i64 k, .slice P n cp, .slice S m cs, .agg #[.int .i64 X, .int .i64 Y, .slice A p.length ca]] w1 fun e w' => ∃ B cb, e = .returned (.tuple #[.agg #[.int .i64 X1, .int .i64 Y1, .slice B q.length cb], .int .i64 e0]) ∧ q.length ≤ cb ∧ Kd.C k45 w' B q.length q ∧ Below w1.heap.size w1 w'))
    (HQ : Aside0 (∀ w1, Below w.heap.size w w1 → Calls Try.prog 33 #[.int .i64 k, .slice P n cp, .slice S m cs, .agg #[.int .i64 X, .int .i64 Y, .slice A p.length ca]] w1 fun e w' => ∃ B cb, e = .returned (.tuple #[.agg #[.int .i64 X1, .int .i64 Y1, .slice B q.length cb], .int .i64 e0]) ∧ q.length ≤ cb ∧ Kd.C k45 w' B q.length q ∧ Below w1.heap.size w1 w')) :
    Calls Try.prog 7 #[.int .i64 k, .slice P n cp, .slice S m cs, .agg #[.int .i64 X, .int .i64 Y, .slice A p.length ca]] w fun e w' => e = .returned (.bool true) ∧ Below w.heap.size w w' := by
  go_enter Try.func7, Try.ntmps7
  go_wp2_with fail
  have X0 := blk_new w (.cells #[.int .i64 X, .int .i64 Y, .slice A p.length ca] 36)
  have XB := below_alloc (Below.refl w.heap.size w) (.cells #[.int .i64 X, .int .i64 Y, .slice A p.length ca] 36)
  refine (HP.out _ XB).mono ?_
  rintro e w1 ⟨B, cb, rfl, _, hB, hb⟩
  have Z0 := blk_alloc (blk_below X0 hb) (.cells #[.int .i64 X1, .int .i64 Y1, .slice B q.length cb] 36)
  have Z1 := blk_new w1 (.cells #[.int .i64 X1, .int .i64 Y1, .slice B q.length cb] 36)
  have YB := below_alloc (step XB hb) (.cells #[.int .i64 X1, .int .i64 Y1, .slice B q.length cb] 36)
  replace hB := Kd.C_alloc hB (.cells #[.int .i64 X1, .int .i64 Y1, .slice B q.length cb] 36)
  clear X0 XB hb
  have p0 : (w1.alloc (.cells #[.int .i64 X1, .int .i64 Y1, .slice B q.length cb] 36)).cell? ⟨w.heap.size, 0, none⟩ = some (.int .i64 X) := (blk_cell Z0 0).trans rfl
  have p1 : (w1.alloc (.cells #[.int .i64 X1, .int .i64 Y1, .slice B q.length cb] 36)).cell? ⟨w.heap.size, 1, none⟩ = some (.int .i64 Y) := (blk_cell Z0 1).trans rfl
  have p2 : (w1.alloc (.cells #[.int .i64 X1, .int .i64 Y1, .slice B q.length cb] 36)).cell? ⟨w.heap.size, 2, none⟩ = some (.slice A p.length ca) := (blk_cell Z0 2).trans rfl
  dsimp only
  go_wp2_with fail
  refine (HQ.out _ YB).mono ?_
  rintro e w2 ⟨D, cd, rfl, _, hD, hb⟩
  have V1 := blk_alloc (blk_below Z1 hb) (.cells #[.int .i64 X1, .int .i64 Y1, .slice D q.length cd] 36)
  have V2 := blk_new w2 (.cells #[.int .i64 X1, .int .i64 Y1, .slice D q.length cd] 36)
  have ZB := below_alloc (step YB hb) (.cells #[.int .i64 X1, .int .i64 Y1, .slice D q.length cd] 36)
  replace hB := Kd.C_alloc (Kd.C_below hB hb) (.cells #[.int .i64 X1, .int .i64 Y1, .slice D q.length cd] 36)
  replace hD := Kd.C_alloc hD (.cells #[.int .i64 X1, .int .i64 Y1, .slice D q.length cd] 36)
  clear p0 p1 p2 Z0 Z1 YB hb
  dsimp only
  go_wp2_with fail
  refine (awake_any _).mono ?_
  rintro e w3 ⟨rfl, hb⟩
  have U1 := blk_below V1 hb
  have U2 := blk_below V2 hb
  have VB := Aside0.mk (step ZB hb)
  replace hB := Kd.C_below hB hb
  replace hD := Kd.C_below hD hb
  clear V1 V2 ZB hb
  have p0 : w3.cell? ⟨w1.heap.size, 0, none⟩ = some (.int .i64 X1) := (blk_cell U1 0).trans rfl
  have p1 : w3.cell? ⟨w1.heap.size, 1, none⟩ = some (.int .i64 Y1) := (blk_cell U1 1).trans rfl
  have p2 : w3.cell? ⟨w1.heap.size, 2, none⟩ = some (.slice B q.length cb) := (blk_cell U1 2).trans rfl
  have q0 : w3.cell? ⟨w2.heap.size, 0, none⟩ = some (.int .i64 X1) := (blk_cell U2 0).trans rfl
  have q1 : w3.cell? ⟨w2.heap.size, 1, none⟩ = some (.int .i64 Y1) := (blk_cell U2 1).trans rfl
  have q2 : w3.cell? ⟨w2.heap.size, 2, none⟩ = some (.slice D q.length cd) := (blk_cell U2 2).trans rfl
  clear U1 U2
  dsimp only
  go_wp2_with fail
  refine (same_any X1 Y1 B D cb cd q w3 hB hD).mono ?_
  rintro e w4 ⟨rfl, hb⟩
  have TB := Aside0.mk (step VB.out hb)
  clear hb hB hD VB p0 p1 p2 q0 q1 q2
  dsimp only
  go_wp2
  go_ret
  exact ⟨rfl, TB.out⟩
theorem images_any (k : Int) (P : Option Addr) (cp : Nat) (l : List Int) (S : Option Addr) (cs : Nat) (s : List S74) (X Y : Int) (A : Option Addr) (ca : Nat) (p : List S45) (w : World) (hp : Ints w P l) (hcp : l.length ≤ cp) (hs : Kd.C k74 w S s.length s) (hcs : s.length ≤ cs) (hr : Kd.C k45 w A p.length p) (hc : p.length ≤ ca) :
    Calls Try.prog 7 #[.int .i64 k, .slice P l.length cp, .slice S s.length cs, .agg #[.int .i64 X, .int .i64 Y, .slice A p.length ca]] w fun e w' => e = .returned (.bool true) ∧ Below w.heap.size w w' :=
  images_walk k P l.length cp S s.length cs X Y A ca p _ _ _ _ w ⟨fun w1 hb => image_any k P cp l S cs s X Y A ca p w1 (Kd.C_below hp hb) hcp (Kd.C_below hs hb) hcs (Kd.C_below hr hb) hc⟩ ⟨fun w1 hb => rimage_any k P cp l S cs s X Y A ca p w1 (Kd.C_below hp hb) (Kd.C_below hs hb) hcs (Kd.C_below hr hb) hc⟩
end Go.Proofs.Ytmgpmpiondciiaa.Adj
