/- adjust.Pixel as a contract: an error, or what apply answers. No condition but those of each theorem. -/
import Derived.Test.YtmgpmpiondciiaaAdjCw
import Derived.Test.YtmgpmpiondciiaaAdjCurve
namespace Go.Proofs.Ytmgpmpiondciiaa.Adj
open Go.RowKit Go.Proofs.Ytmgpmpiondciiaa.PAdjustImages Go.Proofs.YtmgpmpiondciiaaW.PrintWords Go.Proofs.YtmgpmpiondciiaaW.PrintMore Go.Proofs.Ytmgpmpiondciiaa.Plain
abbrev Z4 : Value := .agg #[.int .i64 0, .int .i64 0, .int .i64 0, .int .i64 0]
theorem two (w W : World) (a b : Obj) (h : (w.alloc a).alloc b = W) : W.heap[w.heap.size]? = some a ∧ W.heap[w.heap.size + 1]? = some b ∧ Below w.heap.size w W := by
  subst h
  refine ⟨blk_alloc (blk_new w a) b, ?_, below_alloc (below_alloc (Below.refl _ w) a) b⟩
  have := blk_new (w.alloc a) b
  simpa using this
set_option maxRecDepth 100000 in
set_option maxHeartbeats 3200000 in
theorem pixel_err (k : Int) (P : Option Addr) (n cp : Nat) (S : Option Addr) (m cs : Nat) (R G B A e0 : Int) (w : World) (h : (e0 == 0) = false)
    (HC : Aside0 (∀ w1, Below w.heap.size w w1 → Calls Try.prog 45 #[.int .i64 k, .slice P n cp, .slice S m cs] w1 fun e w' => e = .returned (.int .i64 e0) ∧ Below w1.heap.size w1 w')) :
    Calls Try.prog 36 #[.int .i64 k, .slice P n cp, .slice S m cs, .agg #[.int .i64 R, .int .i64 G, .int .i64 B, .int .i64 A]] w fun e w' => e = .returned (.tuple #[Z4, .int .i64 e0]) ∧ Below w.heap.size w w' := by
  go_enter Try.func36, Try.ntmps36
  go_wp2_with fail
  generalize hW : (w.alloc (.cells #[.int .i64 R, .int .i64 G, .int .i64 B, .int .i64 A] 45)).alloc (.cells #[.int .i64 0, .int .i64 0, .int .i64 0, .int .i64 0] 45) = W
  obtain ⟨X0, X1, XB⟩ := two _ _ _ _ hW
  clear hW
  refine (HC.out W XB).mono ?_
  rintro e w1 ⟨rfl, hb⟩
  have Y0 := blk_below X0 hb
  have Y1 := blk_below X1 hb
  have YB := Aside0.mk (step XB hb)
  clear X0 X1 XB hb
  dsimp only
  have hz0 : w1.cell? ⟨w.heap.size + 1, 0, none⟩ = some (.int .i64 0) := (blk_cell Y1 0).trans rfl
  have hf0 := blk_frozen Y1 0
  have hz1 : w1.cell? ⟨w.heap.size + 1, 1, none⟩ = some (.int .i64 0) := (blk_cell Y1 1).trans rfl
  have hf1 := blk_frozen Y1 1
  have hz2 : w1.cell? ⟨w.heap.size + 1, 2, none⟩ = some (.int .i64 0) := (blk_cell Y1 2).trans rfl
  have hf2 := blk_frozen Y1 2
  have hz3 : w1.cell? ⟨w.heap.size + 1, 3, none⟩ = some (.int .i64 0) := (blk_cell Y1 3).trans rfl
  have hf3 := blk_frozen Y1 3
  clear Y0 Y1
  go_wp2
  refine bodyPost_ret (v := .tuple #[Z4, .int .i64 e0]) (by simp [results, Try.results36, go_sem, hz0, hz1, hz2, hz3]) rfl ⟨rfl, ?_⟩
  repeat (first | exact YB.out | refine below_set ?_ (by omega))
set_option maxRecDepth 100000 in
set_option maxHeartbeats 3200000 in
theorem pixel_bad (k : Int) (P : Option Addr) (n cp : Nat) (S : Option Addr) (m cs : Nat) (R G B A : Int) (w : World) (h : vldB R G B A = false)
    (HC : Aside0 (∀ w1, Below w.heap.size w w1 → Calls Try.prog 45 #[.int .i64 k, .slice P n cp, .slice S m cs] w1 fun e w' => e = .returned (.int .i64 0) ∧ Below w1.heap.size w1 w')) :
    Calls Try.prog 36 #[.int .i64 k, .slice P n cp, .slice S m cs, .agg #[.int .i64 R, .int .i64 G, .int .i64 B, .int .i64 A]] w fun e w' => e = .returned (.tuple #[Z4, .int .i64 2]) ∧ Below w.heap.size w w' := by
  have HM : Aside0 (∀ w, Calls Try.prog 44 #[.agg #[.int .i64 R, .int .i64 G, .int .i64 B, .int .i64 A]] w fun e w' => e = .returned (.bool false) ∧ Below w.heap.size w w') := ⟨fun w => by rw [← h]; exact Valid_any R G B A w⟩
  clear h
  go_enter Try.func36, Try.ntmps36
  go_wp2_with fail
  generalize hW : (w.alloc (.cells #[.int .i64 R, .int .i64 G, .int .i64 B, .int .i64 A] 45)).alloc (.cells #[.int .i64 0, .int .i64 0, .int .i64 0, .int .i64 0] 45) = W
  obtain ⟨X0, X1, XB⟩ := two _ _ _ _ hW
  clear hW
  refine (HC.out W XB).mono ?_
  rintro e w1 ⟨rfl, hb⟩
  have Y0 := blk_below X0 hb
  have Y1 := blk_below X1 hb
  have YB := Aside0.mk (step XB hb)
  clear X0 X1 XB hb
  dsimp only
  have p0 : w1.cell? ⟨w.heap.size, 0, none⟩ = some (.int .i64 R) := (blk_cell Y0 0).trans rfl
  have p1 : w1.cell? ⟨w.heap.size, 1, none⟩ = some (.int .i64 G) := (blk_cell Y0 1).trans rfl
  have p2 : w1.cell? ⟨w.heap.size, 2, none⟩ = some (.int .i64 B) := (blk_cell Y0 2).trans rfl
  have p3 : w1.cell? ⟨w.heap.size, 3, none⟩ = some (.int .i64 A) := (blk_cell Y0 3).trans rfl
  go_wp2_with fail
  refine (HM.out _).mono ?_
  rintro e w2 ⟨rfl, hb⟩
  have V1 := blk_below Y1 hb
  have VB := Aside0.mk (step YB.out hb)
  have hz0 : w2.cell? ⟨w.heap.size + 1, 0, none⟩ = some (.int .i64 0) := (blk_cell V1 0).trans rfl
  have hf0 := blk_frozen V1 0
  have hz1 : w2.cell? ⟨w.heap.size + 1, 1, none⟩ = some (.int .i64 0) := (blk_cell V1 1).trans rfl
  have hf1 := blk_frozen V1 1
  have hz2 : w2.cell? ⟨w.heap.size + 1, 2, none⟩ = some (.int .i64 0) := (blk_cell V1 2).trans rfl
  have hf2 := blk_frozen V1 2
  have hz3 : w2.cell? ⟨w.heap.size + 1, 3, none⟩ = some (.int .i64 0) := (blk_cell V1 3).trans rfl
  have hf3 := blk_frozen V1 3
  clear Y0 Y1 V1 YB hb p0 p1 p2 p3
  dsimp only
  go_wp2
  refine bodyPost_ret (v := .tuple #[Z4, .int .i64 2]) (by simp [results, Try.results36, go_sem, hz0, hz1, hz2, hz3]) rfl ⟨rfl, ?_⟩
  repeat (first | exact VB.out | refine below_set ?_ (by omega))
set_option maxRecDepth 100000 in
set_option maxHeartbeats 3200000 in
theorem pixel_ok (k : Int) (P : Option Addr) (n cp : Nat) (S : Option Addr) (m cs : Nat) (R G B A v0 v1 v2 v3 : Int) (w : World) (h : vldB R G B A = true)
    (HC : Aside0 (∀ w1, Below w.heap.size w w1 → Calls Try.prog 45 #[.int .i64 k, .slice P n cp, .slice S m cs] w1 fun e w' => e = .returned (.int .i64 0) ∧ Below w1.heap.size w1 w'))
    (HA : Aside0 (∀ w1, Below w.heap.size w w1 → Calls Try.prog 55 #[.int .i64 k, .slice P n cp, .slice S m cs, .agg #[.int .i64 R, .int .i64 G, .int .i64 B, .int .i64 A]] w1 fun e w' => e = .returned (.agg #[.int .i64 v0, .int .i64 v1, .int .i64 v2, .int .i64 v3]) ∧ Below w1.heap.size w1 w')) :
    Calls Try.prog 36 #[.int .i64 k, .slice P n cp, .slice S m cs, .agg #[.int .i64 R, .int .i64 G, .int .i64 B, .int .i64 A]] w fun e w' => e = .returned (.tuple #[.agg #[.int .i64 v0, .int .i64 v1, .int .i64 v2, .int .i64 v3], .int .i64 0]) ∧ Below w.heap.size w w' := by
  have HM : Aside0 (∀ w, Calls Try.prog 44 #[.agg #[.int .i64 R, .int .i64 G, .int .i64 B, .int .i64 A]] w fun e w' => e = .returned (.bool true) ∧ Below w.heap.size w w') := ⟨fun w => by rw [← h]; exact Valid_any R G B A w⟩
  clear h
  go_enter Try.func36, Try.ntmps36
  go_wp2_with fail
  generalize hW : (w.alloc (.cells #[.int .i64 R, .int .i64 G, .int .i64 B, .int .i64 A] 45)).alloc (.cells #[.int .i64 0, .int .i64 0, .int .i64 0, .int .i64 0] 45) = W
  obtain ⟨X0, X1, XB⟩ := two _ _ _ _ hW
  clear hW
  refine (HC.out W XB).mono ?_
  rintro e w1 ⟨rfl, hb⟩
  have Y0 := blk_below X0 hb
  have Y1 := blk_below X1 hb
  have YB := Aside0.mk (step XB hb)
  clear X0 X1 XB hb
  dsimp only
  have p0 : w1.cell? ⟨w.heap.size, 0, none⟩ = some (.int .i64 R) := (blk_cell Y0 0).trans rfl
  have p1 : w1.cell? ⟨w.heap.size, 1, none⟩ = some (.int .i64 G) := (blk_cell Y0 1).trans rfl
  have p2 : w1.cell? ⟨w.heap.size, 2, none⟩ = some (.int .i64 B) := (blk_cell Y0 2).trans rfl
  have p3 : w1.cell? ⟨w.heap.size, 3, none⟩ = some (.int .i64 A) := (blk_cell Y0 3).trans rfl
  go_wp2_with fail
  refine (HM.out _).mono ?_
  rintro e w2 ⟨rfl, hb⟩
  have V0 := blk_below Y0 hb
  have V1 := blk_below Y1 hb
  have VB := Aside0.mk (step YB.out hb)
  clear Y0 Y1 YB hb p0 p1 p2 p3
  have p0 : w2.cell? ⟨w.heap.size, 0, none⟩ = some (.int .i64 R) := (blk_cell V0 0).trans rfl
  have p1 : w2.cell? ⟨w.heap.size, 1, none⟩ = some (.int .i64 G) := (blk_cell V0 1).trans rfl
  have p2 : w2.cell? ⟨w.heap.size, 2, none⟩ = some (.int .i64 B) := (blk_cell V0 2).trans rfl
  have p3 : w2.cell? ⟨w.heap.size, 3, none⟩ = some (.int .i64 A) := (blk_cell V0 3).trans rfl
  dsimp only
  go_wp2_with fail
  refine (HA.out _ VB.out).mono ?_
  rintro e w3 ⟨rfl, hb⟩
  have U1 := blk_below V1 hb
  have UB := Aside0.mk (step VB.out hb)
  have hz0 : w3.cell? ⟨w.heap.size + 1, 0, none⟩ = some (.int .i64 0) := (blk_cell U1 0).trans rfl
  have hf0 := blk_frozen U1 0
  have hz1 : w3.cell? ⟨w.heap.size + 1, 1, none⟩ = some (.int .i64 0) := (blk_cell U1 1).trans rfl
  have hf1 := blk_frozen U1 1
  have hz2 : w3.cell? ⟨w.heap.size + 1, 2, none⟩ = some (.int .i64 0) := (blk_cell U1 2).trans rfl
  have hf2 := blk_frozen U1 2
  have hz3 : w3.cell? ⟨w.heap.size + 1, 3, none⟩ = some (.int .i64 0) := (blk_cell U1 3).trans rfl
  have hf3 := blk_frozen U1 3
  clear V0 V1 U1 VB hb p0 p1 p2 p3
  dsimp only
  go_wp2
  refine bodyPost_ret (v := .tuple #[.agg #[.int .i64 v0, .int .i64 v1, .int .i64 v2, .int .i64 v3], .int .i64 0]) (by simp [results, Try.results36, go_sem, hz0, hz1, hz2, hz3]) rfl ⟨rfl, ?_⟩
  repeat (first | exact UB.out | refine below_set ?_ (by omega))
end Go.Proofs.Ytmgpmpiondciiaa.Adj
