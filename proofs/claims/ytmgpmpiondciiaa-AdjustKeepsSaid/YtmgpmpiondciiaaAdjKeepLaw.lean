/- imageeditorlaw17.AdjustKeeps answers true. No condition but that the slices lie in memory. -/
import Derived.Test.YtmgpmpiondciiaaAdjKeep
import Derived.Test.YtmgpmpiondciiaaAdjAwake
namespace Go.Proofs.Ytmgpmpiondciiaa.Adj
open Go.RowKit Go.Proofs.Ytmgpmpiondciiaa.PAdjustImages Go.Proofs.YtmgpmpiondciiaaW.PrintWords Go.Proofs.YtmgpmpiondciiaaW.PrintMore Go.Proofs.Ytmgpmpiondciiaa.Plain
set_option maxRecDepth 100000 in
set_option maxHeartbeats 3200000 in
theorem keeps_err (k : Int) (P : Option Addr) (n cp : Nat) (S : Option Addr) (m cs : Nat) (R G B A : Int) (w : World) (e0 : Int) (h : (e0 == 0) = false)
    (HP : Aside0 (∀ w1, Below w.heap.size w w1 → Calls Try.prog 36 #[.int .i64 k, .slice P n cp, .slice S m cs, .agg #[.int .i64 R, .int .i64 G, .int .i64 B, .int .i64 A]] w1 fun e w' => e = .returned (.tuple #[.agg #[.int .i64 0, .int .i64 0, .int .i64 0, .int .i64 0], .int .i64 e0]) ∧ Below w1.heap.size w1 w')) :
    Calls Try.prog 16 #[.int .i64 k, .slice P n cp, .slice S m cs, .agg #[.int .i64 R, .int .i64 G, .int .i64 B, .int .i64 A]] w fun e w' => e = .returned (.bool true) ∧ Below w.heap.size w w' := by
  go_enter Try.func16, Try.ntmps16
  go_wp2_with fail
  have X0 := blk_new w (.cells #[.int .i64 R, .int .i64 G, .int .i64 B, .int .i64 A] 45)
  have XB := below_alloc (Below.refl w.heap.size w) (.cells #[.int .i64 R, .int .i64 G, .int .i64 B, .int .i64 A] 45)
  refine (HP.out _ XB).mono ?_
  rintro e w1 ⟨rfl, hb⟩
  have Y0 := blk_below X0 hb
  have YB := step XB hb
  clear X0 XB hb
  dsimp only
  go_wp2_with fail
  have Z0 := blk_alloc Y0 (.cells #[.int .i64 0, .int .i64 0, .int .i64 0, .int .i64 0] 45)
  have Z1 := blk_new w1 (.cells #[.int .i64 0, .int .i64 0, .int .i64 0, .int .i64 0] 45)
  have ZB := below_alloc YB (.cells #[.int .i64 0, .int .i64 0, .int .i64 0, .int .i64 0] 45)
  refine (awake_any _).mono ?_
  rintro e w2 ⟨rfl, hb⟩
  have V0 := blk_below Z0 hb
  have V1 := blk_below Z1 hb
  have VB := Aside0.mk (step ZB hb)
  clear Y0 YB Z0 Z1 ZB hb
  have p0 : w2.cell? ⟨w.heap.size, 0, none⟩ = some (.int .i64 R) := (blk_cell V0 0).trans rfl
  have p1 : w2.cell? ⟨w.heap.size, 1, none⟩ = some (.int .i64 G) := (blk_cell V0 1).trans rfl
  have p2 : w2.cell? ⟨w.heap.size, 2, none⟩ = some (.int .i64 B) := (blk_cell V0 2).trans rfl
  have p3 : w2.cell? ⟨w.heap.size, 3, none⟩ = some (.int .i64 A) := (blk_cell V0 3).trans rfl
  have q0 : w2.cell? ⟨w1.heap.size, 0, none⟩ = some (.int .i64 0) := (blk_cell V1 0).trans rfl
  have q1 : w2.cell? ⟨w1.heap.size, 1, none⟩ = some (.int .i64 0) := (blk_cell V1 1).trans rfl
  have q2 : w2.cell? ⟨w1.heap.size, 2, none⟩ = some (.int .i64 0) := (blk_cell V1 2).trans rfl
  have q3 : w2.cell? ⟨w1.heap.size, 3, none⟩ = some (.int .i64 0) := (blk_cell V1 3).trans rfl
  clear V0 V1
  dsimp only
  go_wp2
  go_ret
  exact ⟨rfl, VB.out⟩
set_option maxRecDepth 100000 in
set_option maxHeartbeats 3200000 in
theorem keeps_clear (k : Int) (P : Option Addr) (n cp : Nat) (S : Option Addr) (m cs : Nat) (R G B : Int) (w : World)
    (HP : Aside0 (∀ w1, Below w.heap.size w w1 → Calls Try.prog 36 #[.int .i64 k, .slice P n cp, .slice S m cs, .agg #[.int .i64 R, .int .i64 G, .int .i64 B, .int .i64 0]] w1 fun e w' => e = .returned (.tuple #[.agg #[.int .i64 0, .int .i64 0, .int .i64 0, .int .i64 0], .int .i64 0]) ∧ Below w1.heap.size w1 w')) :
    Calls Try.prog 16 #[.int .i64 k, .slice P n cp, .slice S m cs, .agg #[.int .i64 R, .int .i64 G, .int .i64 B, .int .i64 0]] w fun e w' => e = .returned (.bool true) ∧ Below w.heap.size w w' := by
  go_enter Try.func16, Try.ntmps16
  go_wp2_with fail
  have X0 := blk_new w (.cells #[.int .i64 R, .int .i64 G, .int .i64 B, .int .i64 0] 45)
  have XB := below_alloc (Below.refl w.heap.size w) (.cells #[.int .i64 R, .int .i64 G, .int .i64 B, .int .i64 0] 45)
  refine (HP.out _ XB).mono ?_
  rintro e w1 ⟨rfl, hb⟩
  have Y0 := blk_below X0 hb
  have YB := step XB hb
  clear X0 XB hb
  dsimp only
  go_wp2_with fail
  have Z0 := blk_alloc Y0 (.cells #[.int .i64 0, .int .i64 0, .int .i64 0, .int .i64 0] 45)
  have Z1 := blk_new w1 (.cells #[.int .i64 0, .int .i64 0, .int .i64 0, .int .i64 0] 45)
  have ZB := below_alloc YB (.cells #[.int .i64 0, .int .i64 0, .int .i64 0, .int .i64 0] 45)
  refine (awake_any _).mono ?_
  rintro e w2 ⟨rfl, hb⟩
  have V0 := blk_below Z0 hb
  have V1 := blk_below Z1 hb
  have VB := Aside0.mk (step ZB hb)
  clear Y0 YB Z0 Z1 ZB hb
  have p0 : w2.cell? ⟨w.heap.size, 0, none⟩ = some (.int .i64 R) := (blk_cell V0 0).trans rfl
  have p1 : w2.cell? ⟨w.heap.size, 1, none⟩ = some (.int .i64 G) := (blk_cell V0 1).trans rfl
  have p2 : w2.cell? ⟨w.heap.size, 2, none⟩ = some (.int .i64 B) := (blk_cell V0 2).trans rfl
  have p3 : w2.cell? ⟨w.heap.size, 3, none⟩ = some (.int .i64 0) := (blk_cell V0 3).trans rfl
  have q0 : w2.cell? ⟨w1.heap.size, 0, none⟩ = some (.int .i64 0) := (blk_cell V1 0).trans rfl
  have q1 : w2.cell? ⟨w1.heap.size, 1, none⟩ = some (.int .i64 0) := (blk_cell V1 1).trans rfl
  have q2 : w2.cell? ⟨w1.heap.size, 2, none⟩ = some (.int .i64 0) := (blk_cell V1 2).trans rfl
  have q3 : w2.cell? ⟨w1.heap.size, 3, none⟩ = some (.int .i64 0) := (blk_cell V1 3).trans rfl
  clear V0 V1
  dsimp only
  go_wp2
  go_ret
  exact ⟨rfl, VB.out⟩
set_option maxRecDepth 100000 in
set_option maxHeartbeats 3200000 in
theorem keeps_ok (k : Int) (P : Option Addr) (n cp : Nat) (S : Option Addr) (m cs : Nat) (R G B A : Int) (w : World) (v0 v1 v2 : Int) (h : (A == 0) = false) (V : VldP ⟨v0, v1, v2, A⟩)
    (HC : Aside0 (∀ w1, Below w.heap.size w w1 → Calls Try.prog 45 #[.int .i64 k, .slice P n cp, .slice S m cs] w1 fun e w' => e = .returned (.int .i64 0) ∧ Below w1.heap.size w1 w'))
    (HP : Aside0 (∀ w1, Below w.heap.size w w1 → Calls Try.prog 36 #[.int .i64 k, .slice P n cp, .slice S m cs, .agg #[.int .i64 R, .int .i64 G, .int .i64 B, .int .i64 A]] w1 fun e w' => e = .returned (.tuple #[.agg #[.int .i64 v0, .int .i64 v1, .int .i64 v2, .int .i64 A], .int .i64 0]) ∧ Below w1.heap.size w1 w')) :
    Calls Try.prog 16 #[.int .i64 k, .slice P n cp, .slice S m cs, .agg #[.int .i64 R, .int .i64 G, .int .i64 B, .int .i64 A]] w fun e w' => e = .returned (.bool true) ∧ Below w.heap.size w w' := by
  go_enter Try.func16, Try.ntmps16
  go_wp2_with fail
  have X0 := blk_new w (.cells #[.int .i64 R, .int .i64 G, .int .i64 B, .int .i64 A] 45)
  have XB := below_alloc (Below.refl w.heap.size w) (.cells #[.int .i64 R, .int .i64 G, .int .i64 B, .int .i64 A] 45)
  refine (HP.out _ XB).mono ?_
  rintro e w1 ⟨rfl, hb⟩
  have Y0 := blk_below X0 hb
  have YB := step XB hb
  clear X0 XB hb
  dsimp only
  go_wp2_with fail
  have Z0 := blk_alloc Y0 (.cells #[.int .i64 v0, .int .i64 v1, .int .i64 v2, .int .i64 A] 45)
  have Z1 := blk_new w1 (.cells #[.int .i64 v0, .int .i64 v1, .int .i64 v2, .int .i64 A] 45)
  have ZB := below_alloc YB (.cells #[.int .i64 v0, .int .i64 v1, .int .i64 v2, .int .i64 A] 45)
  refine (awake_any _).mono ?_
  rintro e w2 ⟨rfl, hb⟩
  have V0 := blk_below Z0 hb
  have V1 := blk_below Z1 hb
  have VB := Aside0.mk (step ZB hb)
  clear Y0 YB Z0 Z1 ZB hb
  have p0 : w2.cell? ⟨w.heap.size, 0, none⟩ = some (.int .i64 R) := (blk_cell V0 0).trans rfl
  have p1 : w2.cell? ⟨w.heap.size, 1, none⟩ = some (.int .i64 G) := (blk_cell V0 1).trans rfl
  have p2 : w2.cell? ⟨w.heap.size, 2, none⟩ = some (.int .i64 B) := (blk_cell V0 2).trans rfl
  have p3 : w2.cell? ⟨w.heap.size, 3, none⟩ = some (.int .i64 A) := (blk_cell V0 3).trans rfl
  have q0 : w2.cell? ⟨w1.heap.size, 0, none⟩ = some (.int .i64 v0) := (blk_cell V1 0).trans rfl
  have q1 : w2.cell? ⟨w1.heap.size, 1, none⟩ = some (.int .i64 v1) := (blk_cell V1 1).trans rfl
  have q2 : w2.cell? ⟨w1.heap.size, 2, none⟩ = some (.int .i64 v2) := (blk_cell V1 2).trans rfl
  have q3 : w2.cell? ⟨w1.heap.size, 3, none⟩ = some (.int .i64 A) := (blk_cell V1 3).trans rfl
  dsimp only
  go_wp2_with fail
  refine (HC.out _ VB.out).mono ?_
  rintro e w3 ⟨rfl, hb⟩
  have U0 := blk_below V0 hb
  have U1 := blk_below V1 hb
  have UB := Aside0.mk (step VB.out hb)
  clear V0 V1 VB hb p0 p1 p2 p3 q0 q1 q2 q3
  have p0 : w3.cell? ⟨w.heap.size, 0, none⟩ = some (.int .i64 R) := (blk_cell U0 0).trans rfl
  have p1 : w3.cell? ⟨w.heap.size, 1, none⟩ = some (.int .i64 G) := (blk_cell U0 1).trans rfl
  have p2 : w3.cell? ⟨w.heap.size, 2, none⟩ = some (.int .i64 B) := (blk_cell U0 2).trans rfl
  have p3 : w3.cell? ⟨w.heap.size, 3, none⟩ = some (.int .i64 A) := (blk_cell U0 3).trans rfl
  have q0 : w3.cell? ⟨w1.heap.size, 0, none⟩ = some (.int .i64 v0) := (blk_cell U1 0).trans rfl
  have q1 : w3.cell? ⟨w1.heap.size, 1, none⟩ = some (.int .i64 v1) := (blk_cell U1 1).trans rfl
  have q2 : w3.cell? ⟨w1.heap.size, 2, none⟩ = some (.int .i64 v2) := (blk_cell U1 2).trans rfl
  have q3 : w3.cell? ⟨w1.heap.size, 3, none⟩ = some (.int .i64 A) := (blk_cell U1 3).trans rfl
  dsimp only
  go_wp2_with fail
  refine (Valid_any v0 v1 v2 A _).mono ?_
  rw [(vldB_iff v0 v1 v2 A).2 V]
  rintro e w4 ⟨rfl, hb⟩
  have T0 := blk_below U0 hb
  have T1 := blk_below U1 hb
  have TB := Aside0.mk (step UB.out hb)
  clear U0 U1 UB hb p0 p1 p2 p3 q0 q1 q2 q3
  have p0 : w4.cell? ⟨w.heap.size, 0, none⟩ = some (.int .i64 R) := (blk_cell T0 0).trans rfl
  have p1 : w4.cell? ⟨w.heap.size, 1, none⟩ = some (.int .i64 G) := (blk_cell T0 1).trans rfl
  have p2 : w4.cell? ⟨w.heap.size, 2, none⟩ = some (.int .i64 B) := (blk_cell T0 2).trans rfl
  have p3 : w4.cell? ⟨w.heap.size, 3, none⟩ = some (.int .i64 A) := (blk_cell T0 3).trans rfl
  have q0 : w4.cell? ⟨w1.heap.size, 0, none⟩ = some (.int .i64 v0) := (blk_cell T1 0).trans rfl
  have q1 : w4.cell? ⟨w1.heap.size, 1, none⟩ = some (.int .i64 v1) := (blk_cell T1 1).trans rfl
  have q2 : w4.cell? ⟨w1.heap.size, 2, none⟩ = some (.int .i64 v2) := (blk_cell T1 2).trans rfl
  have q3 : w4.cell? ⟨w1.heap.size, 3, none⟩ = some (.int .i64 A) := (blk_cell T1 3).trans rfl
  dsimp only
  go_wp2
  go_ret
  exact ⟨rfl, TB.out⟩
theorem keeps_any (k : Int) (P : Option Addr) (cp : Nat) (l : List Int) (S : Option Addr) (cs : Nat) (s : List S74) (R G B A : Int) (w : World) (hp : Ints w P l) (hcp : l.length ≤ cp) (hs : Kd.C k74 w S s.length s) (hcs : s.length ≤ cs) :
    Calls Try.prog 16 #[.int .i64 k, .slice P l.length cp, .slice S s.length cs, .agg #[.int .i64 R, .int .i64 G, .int .i64 B, .int .i64 A]] w fun e w' => e = .returned (.bool true) ∧ Below w.heap.size w w' := by
  have HP := fun w1 (hb : Below w.heap.size w w1) => pixel_any k P cp l S cs s R G B A w1 (hp.below hb) hcp (Kd.C_below hs hb) hcs
  have HC := fun w1 (hb : Below w.heap.size w w1) => check_any k P cp l S cs s w1 (hp.below hb) hcp (Kd.C_below hs hb) hcs
  by_cases he : pixErr k l s R G B A = 0
  · have hans : pixAns k l s R G B A = appPix k l s R G B A := by unfold pixAns; rw [if_pos he]
    have hch : checkV k l s = 0 := by
      unfold pixErr at he
      by_cases h : checkV k l s = 0
      · exact h
      · rw [if_neg h] at he
        exact he
    have hv : vldB R G B A = true := by
      unfold pixErr at he
      rw [if_pos hch] at he
      by_cases h : vldB R G B A = true
      · exact h
      · rw [if_neg h] at he
        exact absurd he (by decide)
    by_cases ha : A = 0
    · subst ha
      refine keeps_clear k P l.length cp S s.length cs R G B w ⟨fun w1 hb => ?_⟩
      have h := HP w1 hb
      rw [hans, he] at h
      exact h
    · obtain ⟨h1, h2⟩ := app_keeps k l s R G B A ((check_zero k l s).1 hch) ((vldB_iff _ _ _ _).1 hv) ha
      rw [hch] at HC
      rw [hans, he] at HP
      generalize appPix k l s R G B A = x at HP h1 h2
      obtain ⟨x0, x1, x2, x3⟩ := x
      obtain rfl : x3 = A := h2
      exact keeps_ok k P l.length cp S s.length cs R G B x3 w x0 x1 x2 (by simpa using ha) h1 ⟨HC⟩ ⟨HP⟩
  · have hans : pixAns k l s R G B A = ⟨0, 0, 0, 0⟩ := by unfold pixAns; rw [if_neg he]
    refine keeps_err k P l.length cp S s.length cs R G B A w (pixErr k l s R G B A) (by simpa using he) ⟨fun w1 hb => ?_⟩
    have h := HP w1 hb
    rw [hans] at h
    exact h
end Go.Proofs.Ytmgpmpiondciiaa.Adj
