/- The reference's counts, ends and Check as contracts: Check answers checkV. No condition but the bounds of each theorem. -/
import Derived.Test.YtmgpmpiondciiaaAdjCw
import Derived.Test.YtmgpmpiondciiaaAdjRefNum
namespace Go.Proofs.Ytmgpmpiondciiaa.Adj
open Go.RowKit Go.Proofs.Ytmgpmpiondciiaa.PAdjustImages Go.Proofs.YtmgpmpiondciiaaW.PrintWords Go.Proofs.YtmgpmpiondciiaaW.PrintMore Go.Proofs.Ytmgpmpiondciiaa.Plain
set_option maxRecDepth 100000 in
set_option maxHeartbeats 8000000 in
theorem counts_1 (w : World) : Calls Try.prog 69 #[.int .i64 1] w fun e w' => e = .returned (.tuple #[.int .i64 0, .int .i64 0]) ∧ Below w.heap.size w w' := by
  have HB := Aside0.mk (below_alloc (Below.refl w.heap.size w) (.cells #[.int .i64 0, .int .i64 0, .int .i64 5, .int .i64 4, .int .i64 2, .int .i64 3, .int .i64 1, .int .i64 1, .int .i64 9, .int .i64 3, .int .i64 0, .int .i64 2] 3))
  have c0 : (w.alloc (.cells #[.int .i64 0, .int .i64 0, .int .i64 5, .int .i64 4, .int .i64 2, .int .i64 3, .int .i64 1, .int .i64 1, .int .i64 9, .int .i64 3, .int .i64 0, .int .i64 2] 3)).cell? ⟨w.heap.size, 1, none⟩ = some (.int .i64 0) := (blk_cell (blk_new w (.cells #[.int .i64 0, .int .i64 0, .int .i64 5, .int .i64 4, .int .i64 2, .int .i64 3, .int .i64 1, .int .i64 1, .int .i64 9, .int .i64 3, .int .i64 0, .int .i64 2] 3)) 1).trans rfl
  go_enter Try.func69, Try.ntmps69
  go_wp2
  go_region
  go_wp2
  refine bodyPost_ret (v := .tuple #[.int .i64 0, .int .i64 0]) (by simp [results, Try.results69, go_sem]) rfl ⟨rfl, ?_⟩
  with_reducible repeat (first | exact HB.out | refine below_drew1 ?_ | refine pw_below_drewN ?_ _)
set_option maxRecDepth 100000 in
set_option maxHeartbeats 8000000 in
theorem counts_2 (w : World) : Calls Try.prog 69 #[.int .i64 2] w fun e w' => e = .returned (.tuple #[.int .i64 5, .int .i64 5]) ∧ Below w.heap.size w w' := by
  have HB := Aside0.mk (below_alloc (Below.refl w.heap.size w) (.cells #[.int .i64 0, .int .i64 0, .int .i64 5, .int .i64 4, .int .i64 2, .int .i64 3, .int .i64 1, .int .i64 1, .int .i64 9, .int .i64 3, .int .i64 0, .int .i64 2] 3))
  have c0 : (w.alloc (.cells #[.int .i64 0, .int .i64 0, .int .i64 5, .int .i64 4, .int .i64 2, .int .i64 3, .int .i64 1, .int .i64 1, .int .i64 9, .int .i64 3, .int .i64 0, .int .i64 2] 3)).cell? ⟨w.heap.size, 2, none⟩ = some (.int .i64 5) := (blk_cell (blk_new w (.cells #[.int .i64 0, .int .i64 0, .int .i64 5, .int .i64 4, .int .i64 2, .int .i64 3, .int .i64 1, .int .i64 1, .int .i64 9, .int .i64 3, .int .i64 0, .int .i64 2] 3)) 2).trans rfl
  go_enter Try.func69, Try.ntmps69
  go_wp2
  go_region
  go_wp2
  refine bodyPost_ret (v := .tuple #[.int .i64 5, .int .i64 5]) (by simp [results, Try.results69, go_sem]) rfl ⟨rfl, ?_⟩
  with_reducible repeat (first | exact HB.out | refine below_drew1 ?_ | refine pw_below_drewN ?_ _)
set_option maxRecDepth 100000 in
set_option maxHeartbeats 8000000 in
theorem counts_3 (w : World) : Calls Try.prog 69 #[.int .i64 3] w fun e w' => e = .returned (.tuple #[.int .i64 4, .int .i64 16]) ∧ Below w.heap.size w w' := by
  have HB := Aside0.mk (below_alloc (Below.refl w.heap.size w) (.cells #[.int .i64 0, .int .i64 0, .int .i64 5, .int .i64 4, .int .i64 2, .int .i64 3, .int .i64 1, .int .i64 1, .int .i64 9, .int .i64 3, .int .i64 0, .int .i64 2] 3))
  go_enter Try.func69, Try.ntmps69
  go_wp2
  refine bodyPost_ret (v := .tuple #[.int .i64 4, .int .i64 16]) (by simp [results, Try.results69, go_sem]) rfl ⟨rfl, ?_⟩
  with_reducible repeat (first | exact HB.out | refine below_drew1 ?_ | refine pw_below_drewN ?_ _)
set_option maxRecDepth 100000 in
set_option maxHeartbeats 8000000 in
theorem counts_4 (w : World) : Calls Try.prog 69 #[.int .i64 4] w fun e w' => e = .returned (.tuple #[.int .i64 2, .int .i64 2]) ∧ Below w.heap.size w w' := by
  have HB := Aside0.mk (below_alloc (Below.refl w.heap.size w) (.cells #[.int .i64 0, .int .i64 0, .int .i64 5, .int .i64 4, .int .i64 2, .int .i64 3, .int .i64 1, .int .i64 1, .int .i64 9, .int .i64 3, .int .i64 0, .int .i64 2] 3))
  have c0 : (w.alloc (.cells #[.int .i64 0, .int .i64 0, .int .i64 5, .int .i64 4, .int .i64 2, .int .i64 3, .int .i64 1, .int .i64 1, .int .i64 9, .int .i64 3, .int .i64 0, .int .i64 2] 3)).cell? ⟨w.heap.size, 4, none⟩ = some (.int .i64 2) := (blk_cell (blk_new w (.cells #[.int .i64 0, .int .i64 0, .int .i64 5, .int .i64 4, .int .i64 2, .int .i64 3, .int .i64 1, .int .i64 1, .int .i64 9, .int .i64 3, .int .i64 0, .int .i64 2] 3)) 4).trans rfl
  go_enter Try.func69, Try.ntmps69
  go_wp2
  go_region
  go_wp2
  refine bodyPost_ret (v := .tuple #[.int .i64 2, .int .i64 2]) (by simp [results, Try.results69, go_sem]) rfl ⟨rfl, ?_⟩
  with_reducible repeat (first | exact HB.out | refine below_drew1 ?_ | refine pw_below_drewN ?_ _)
set_option maxRecDepth 100000 in
set_option maxHeartbeats 8000000 in
theorem counts_5 (w : World) : Calls Try.prog 69 #[.int .i64 5] w fun e w' => e = .returned (.tuple #[.int .i64 3, .int .i64 3]) ∧ Below w.heap.size w w' := by
  have HB := Aside0.mk (below_alloc (Below.refl w.heap.size w) (.cells #[.int .i64 0, .int .i64 0, .int .i64 5, .int .i64 4, .int .i64 2, .int .i64 3, .int .i64 1, .int .i64 1, .int .i64 9, .int .i64 3, .int .i64 0, .int .i64 2] 3))
  have c0 : (w.alloc (.cells #[.int .i64 0, .int .i64 0, .int .i64 5, .int .i64 4, .int .i64 2, .int .i64 3, .int .i64 1, .int .i64 1, .int .i64 9, .int .i64 3, .int .i64 0, .int .i64 2] 3)).cell? ⟨w.heap.size, 5, none⟩ = some (.int .i64 3) := (blk_cell (blk_new w (.cells #[.int .i64 0, .int .i64 0, .int .i64 5, .int .i64 4, .int .i64 2, .int .i64 3, .int .i64 1, .int .i64 1, .int .i64 9, .int .i64 3, .int .i64 0, .int .i64 2] 3)) 5).trans rfl
  go_enter Try.func69, Try.ntmps69
  go_wp2
  go_region
  go_wp2
  refine bodyPost_ret (v := .tuple #[.int .i64 3, .int .i64 3]) (by simp [results, Try.results69, go_sem]) rfl ⟨rfl, ?_⟩
  with_reducible repeat (first | exact HB.out | refine below_drew1 ?_ | refine pw_below_drewN ?_ _)
set_option maxRecDepth 100000 in
set_option maxHeartbeats 8000000 in
theorem counts_6 (w : World) : Calls Try.prog 69 #[.int .i64 6] w fun e w' => e = .returned (.tuple #[.int .i64 1, .int .i64 1]) ∧ Below w.heap.size w w' := by
  have HB := Aside0.mk (below_alloc (Below.refl w.heap.size w) (.cells #[.int .i64 0, .int .i64 0, .int .i64 5, .int .i64 4, .int .i64 2, .int .i64 3, .int .i64 1, .int .i64 1, .int .i64 9, .int .i64 3, .int .i64 0, .int .i64 2] 3))
  have c0 : (w.alloc (.cells #[.int .i64 0, .int .i64 0, .int .i64 5, .int .i64 4, .int .i64 2, .int .i64 3, .int .i64 1, .int .i64 1, .int .i64 9, .int .i64 3, .int .i64 0, .int .i64 2] 3)).cell? ⟨w.heap.size, 6, none⟩ = some (.int .i64 1) := (blk_cell (blk_new w (.cells #[.int .i64 0, .int .i64 0, .int .i64 5, .int .i64 4, .int .i64 2, .int .i64 3, .int .i64 1, .int .i64 1, .int .i64 9, .int .i64 3, .int .i64 0, .int .i64 2] 3)) 6).trans rfl
  go_enter Try.func69, Try.ntmps69
  go_wp2
  go_region
  go_wp2
  refine bodyPost_ret (v := .tuple #[.int .i64 1, .int .i64 1]) (by simp [results, Try.results69, go_sem]) rfl ⟨rfl, ?_⟩
  with_reducible repeat (first | exact HB.out | refine below_drew1 ?_ | refine pw_below_drewN ?_ _)
set_option maxRecDepth 100000 in
set_option maxHeartbeats 8000000 in
theorem counts_7 (w : World) : Calls Try.prog 69 #[.int .i64 7] w fun e w' => e = .returned (.tuple #[.int .i64 1, .int .i64 1]) ∧ Below w.heap.size w w' := by
  have HB := Aside0.mk (below_alloc (Below.refl w.heap.size w) (.cells #[.int .i64 0, .int .i64 0, .int .i64 5, .int .i64 4, .int .i64 2, .int .i64 3, .int .i64 1, .int .i64 1, .int .i64 9, .int .i64 3, .int .i64 0, .int .i64 2] 3))
  have c0 : (w.alloc (.cells #[.int .i64 0, .int .i64 0, .int .i64 5, .int .i64 4, .int .i64 2, .int .i64 3, .int .i64 1, .int .i64 1, .int .i64 9, .int .i64 3, .int .i64 0, .int .i64 2] 3)).cell? ⟨w.heap.size, 7, none⟩ = some (.int .i64 1) := (blk_cell (blk_new w (.cells #[.int .i64 0, .int .i64 0, .int .i64 5, .int .i64 4, .int .i64 2, .int .i64 3, .int .i64 1, .int .i64 1, .int .i64 9, .int .i64 3, .int .i64 0, .int .i64 2] 3)) 7).trans rfl
  go_enter Try.func69, Try.ntmps69
  go_wp2
  go_region
  go_wp2
  refine bodyPost_ret (v := .tuple #[.int .i64 1, .int .i64 1]) (by simp [results, Try.results69, go_sem]) rfl ⟨rfl, ?_⟩
  with_reducible repeat (first | exact HB.out | refine below_drew1 ?_ | refine pw_below_drewN ?_ _)
set_option maxRecDepth 100000 in
set_option maxHeartbeats 8000000 in
theorem counts_8 (w : World) : Calls Try.prog 69 #[.int .i64 8] w fun e w' => e = .returned (.tuple #[.int .i64 9, .int .i64 9]) ∧ Below w.heap.size w w' := by
  have HB := Aside0.mk (below_alloc (Below.refl w.heap.size w) (.cells #[.int .i64 0, .int .i64 0, .int .i64 5, .int .i64 4, .int .i64 2, .int .i64 3, .int .i64 1, .int .i64 1, .int .i64 9, .int .i64 3, .int .i64 0, .int .i64 2] 3))
  have c0 : (w.alloc (.cells #[.int .i64 0, .int .i64 0, .int .i64 5, .int .i64 4, .int .i64 2, .int .i64 3, .int .i64 1, .int .i64 1, .int .i64 9, .int .i64 3, .int .i64 0, .int .i64 2] 3)).cell? ⟨w.heap.size, 8, none⟩ = some (.int .i64 9) := (blk_cell (blk_new w (.cells #[.int .i64 0, .int .i64 0, .int .i64 5, .int .i64 4, .int .i64 2, .int .i64 3, .int .i64 1, .int .i64 1, .int .i64 9, .int .i64 3, .int .i64 0, .int .i64 2] 3)) 8).trans rfl
  go_enter Try.func69, Try.ntmps69
  go_wp2
  go_region
  go_wp2
  refine bodyPost_ret (v := .tuple #[.int .i64 9, .int .i64 9]) (by simp [results, Try.results69, go_sem]) rfl ⟨rfl, ?_⟩
  with_reducible repeat (first | exact HB.out | refine below_drew1 ?_ | refine pw_below_drewN ?_ _)
set_option maxRecDepth 100000 in
set_option maxHeartbeats 8000000 in
theorem counts_9 (w : World) : Calls Try.prog 69 #[.int .i64 9] w fun e w' => e = .returned (.tuple #[.int .i64 3, .int .i64 3]) ∧ Below w.heap.size w w' := by
  have HB := Aside0.mk (below_alloc (Below.refl w.heap.size w) (.cells #[.int .i64 0, .int .i64 0, .int .i64 5, .int .i64 4, .int .i64 2, .int .i64 3, .int .i64 1, .int .i64 1, .int .i64 9, .int .i64 3, .int .i64 0, .int .i64 2] 3))
  have c0 : (w.alloc (.cells #[.int .i64 0, .int .i64 0, .int .i64 5, .int .i64 4, .int .i64 2, .int .i64 3, .int .i64 1, .int .i64 1, .int .i64 9, .int .i64 3, .int .i64 0, .int .i64 2] 3)).cell? ⟨w.heap.size, 9, none⟩ = some (.int .i64 3) := (blk_cell (blk_new w (.cells #[.int .i64 0, .int .i64 0, .int .i64 5, .int .i64 4, .int .i64 2, .int .i64 3, .int .i64 1, .int .i64 1, .int .i64 9, .int .i64 3, .int .i64 0, .int .i64 2] 3)) 9).trans rfl
  go_enter Try.func69, Try.ntmps69
  go_wp2
  go_region
  go_wp2
  refine bodyPost_ret (v := .tuple #[.int .i64 3, .int .i64 3]) (by simp [results, Try.results69, go_sem]) rfl ⟨rfl, ?_⟩
  with_reducible repeat (first | exact HB.out | refine below_drew1 ?_ | refine pw_below_drewN ?_ _)
set_option maxRecDepth 100000 in
set_option maxHeartbeats 8000000 in
theorem counts_10 (w : World) : Calls Try.prog 69 #[.int .i64 10] w fun e w' => e = .returned (.tuple #[.int .i64 0, .int .i64 0]) ∧ Below w.heap.size w w' := by
  have HB := Aside0.mk (below_alloc (Below.refl w.heap.size w) (.cells #[.int .i64 0, .int .i64 0, .int .i64 5, .int .i64 4, .int .i64 2, .int .i64 3, .int .i64 1, .int .i64 1, .int .i64 9, .int .i64 3, .int .i64 0, .int .i64 2] 3))
  have c0 : (w.alloc (.cells #[.int .i64 0, .int .i64 0, .int .i64 5, .int .i64 4, .int .i64 2, .int .i64 3, .int .i64 1, .int .i64 1, .int .i64 9, .int .i64 3, .int .i64 0, .int .i64 2] 3)).cell? ⟨w.heap.size, 10, none⟩ = some (.int .i64 0) := (blk_cell (blk_new w (.cells #[.int .i64 0, .int .i64 0, .int .i64 5, .int .i64 4, .int .i64 2, .int .i64 3, .int .i64 1, .int .i64 1, .int .i64 9, .int .i64 3, .int .i64 0, .int .i64 2] 3)) 10).trans rfl
  go_enter Try.func69, Try.ntmps69
  go_wp2
  go_region
  go_wp2
  refine bodyPost_ret (v := .tuple #[.int .i64 0, .int .i64 0]) (by simp [results, Try.results69, go_sem]) rfl ⟨rfl, ?_⟩
  with_reducible repeat (first | exact HB.out | refine below_drew1 ?_ | refine pw_below_drewN ?_ _)
set_option maxRecDepth 100000 in
set_option maxHeartbeats 8000000 in
theorem counts_11 (w : World) : Calls Try.prog 69 #[.int .i64 11] w fun e w' => e = .returned (.tuple #[.int .i64 2, .int .i64 2]) ∧ Below w.heap.size w w' := by
  have HB := Aside0.mk (below_alloc (Below.refl w.heap.size w) (.cells #[.int .i64 0, .int .i64 0, .int .i64 5, .int .i64 4, .int .i64 2, .int .i64 3, .int .i64 1, .int .i64 1, .int .i64 9, .int .i64 3, .int .i64 0, .int .i64 2] 3))
  have c0 : (w.alloc (.cells #[.int .i64 0, .int .i64 0, .int .i64 5, .int .i64 4, .int .i64 2, .int .i64 3, .int .i64 1, .int .i64 1, .int .i64 9, .int .i64 3, .int .i64 0, .int .i64 2] 3)).cell? ⟨w.heap.size, 11, none⟩ = some (.int .i64 2) := (blk_cell (blk_new w (.cells #[.int .i64 0, .int .i64 0, .int .i64 5, .int .i64 4, .int .i64 2, .int .i64 3, .int .i64 1, .int .i64 1, .int .i64 9, .int .i64 3, .int .i64 0, .int .i64 2] 3)) 11).trans rfl
  go_enter Try.func69, Try.ntmps69
  go_wp2
  go_region
  go_wp2
  refine bodyPost_ret (v := .tuple #[.int .i64 2, .int .i64 2]) (by simp [results, Try.results69, go_sem]) rfl ⟨rfl, ?_⟩
  with_reducible repeat (first | exact HB.out | refine below_drew1 ?_ | refine pw_below_drewN ?_ _)
def cLo (k : Int) : Int := if k = 2 then 5 else if k = 3 then 4 else if k = 4 ∨ k = 11 then 2 else if k = 5 ∨ k = 9 then 3 else if k = 6 ∨ k = 7 then 1 else if k = 8 then 9 else 0
def cHi (k : Int) : Int := if k = 3 then 16 else cLo k
theorem counts_any (k : Int) (w : World) (h0 : 1 ≤ k) (h1 : k ≤ 11) : Calls Try.prog 69 #[.int .i64 k] w fun e w' => e = .returned (.tuple #[.int .i64 (cLo k), .int .i64 (cHi k)]) ∧ Below w.heap.size w w' := by
  have hk : k = 1 ∨ k = 2 ∨ k = 3 ∨ k = 4 ∨ k = 5 ∨ k = 6 ∨ k = 7 ∨ k = 8 ∨ k = 9 ∨ k = 10 ∨ k = 11 := by omega
  rcases hk with rfl | rfl | rfl | rfl | rfl | rfl | rfl | rfl | rfl | rfl | rfl
  · exact counts_1 w
  · exact counts_2 w
  · exact counts_3 w
  · exact counts_4 w
  · exact counts_5 w
  · exact counts_6 w
  · exact counts_7 w
  · exact counts_8 w
  · exact counts_9 w
  · exact counts_10 w
  · exact counts_11 w
set_option maxRecDepth 100000 in
set_option maxHeartbeats 8000000 in
theorem ends_1 (i : Int) (w : World) : Calls Try.prog 70 #[.int .i64 1, .int .i64 i] w fun e w' => e = .returned (.tuple #[.int .i64 (0), .int .i64 (65535)]) ∧ Below w.heap.size w w' := by
  have HB := Aside0.mk (Below.refl w.heap.size w)
  go_enter Try.func70, Try.ntmps70
  go_wp2
  go_ret2
  exact ⟨rfl, HB.out⟩
set_option maxRecDepth 100000 in
set_option maxHeartbeats 8000000 in
theorem ends_2a (i : Int) (w : World) (q : (i == 2) = true) : Calls Try.prog 70 #[.int .i64 2, .int .i64 i] w fun e w' => e = .returned (.tuple #[.int .i64 (1), .int .i64 (256)]) ∧ Below w.heap.size w w' := by
  have HB := Aside0.mk (Below.refl w.heap.size w)
  go_enter Try.func70, Try.ntmps70
  go_wp2
  go_ret2
  exact ⟨rfl, HB.out⟩
set_option maxRecDepth 100000 in
set_option maxHeartbeats 8000000 in
theorem ends_2b (i : Int) (w : World) (q : (i == 2) = false) : Calls Try.prog 70 #[.int .i64 2, .int .i64 i] w fun e w' => e = .returned (.tuple #[.int .i64 (0), .int .i64 (65535)]) ∧ Below w.heap.size w w' := by
  have HB := Aside0.mk (Below.refl w.heap.size w)
  go_enter Try.func70, Try.ntmps70
  go_wp2
  go_ret2
  exact ⟨rfl, HB.out⟩
set_option maxRecDepth 100000 in
set_option maxHeartbeats 8000000 in
theorem ends_3 (i : Int) (w : World) : Calls Try.prog 70 #[.int .i64 3, .int .i64 i] w fun e w' => e = .returned (.tuple #[.int .i64 (0), .int .i64 (65535)]) ∧ Below w.heap.size w w' := by
  have HB := Aside0.mk (Below.refl w.heap.size w)
  go_enter Try.func70, Try.ntmps70
  go_wp2
  go_ret2
  exact ⟨rfl, HB.out⟩
set_option maxRecDepth 100000 in
set_option maxHeartbeats 8000000 in
theorem ends_4 (i : Int) (w : World) : Calls Try.prog 70 #[.int .i64 4, .int .i64 i] w fun e w' => e = .returned (.tuple #[.int .i64 (-65535), .int .i64 (65535)]) ∧ Below w.heap.size w w' := by
  have HB := Aside0.mk (Below.refl w.heap.size w)
  go_enter Try.func70, Try.ntmps70
  go_wp2
  go_ret2
  exact ⟨rfl, HB.out⟩
set_option maxRecDepth 100000 in
set_option maxHeartbeats 8000000 in
theorem ends_5a (i : Int) (w : World) (q : decide (0 < i) = false) : Calls Try.prog 70 #[.int .i64 5, .int .i64 i] w fun e w' => e = .returned (.tuple #[.int .i64 (-32768), .int .i64 (32768)]) ∧ Below w.heap.size w w' := by
  have HB := Aside0.mk (Below.refl w.heap.size w)
  go_enter Try.func70, Try.ntmps70
  go_wp2
  go_ret2
  exact ⟨rfl, HB.out⟩
set_option maxRecDepth 100000 in
set_option maxHeartbeats 8000000 in
theorem ends_5b (i : Int) (w : World) (q : decide (0 < i) = true) : Calls Try.prog 70 #[.int .i64 5, .int .i64 i] w fun e w' => e = .returned (.tuple #[.int .i64 (-65535), .int .i64 (65535)]) ∧ Below w.heap.size w w' := by
  have HB := Aside0.mk (Below.refl w.heap.size w)
  go_enter Try.func70, Try.ntmps70
  go_wp2
  go_ret2
  exact ⟨rfl, HB.out⟩
set_option maxRecDepth 100000 in
set_option maxHeartbeats 8000000 in
theorem ends_6 (i : Int) (w : World) : Calls Try.prog 70 #[.int .i64 6, .int .i64 i] w fun e w' => e = .returned (.tuple #[.int .i64 (0), .int .i64 (65535)]) ∧ Below w.heap.size w w' := by
  have HB := Aside0.mk (Below.refl w.heap.size w)
  go_enter Try.func70, Try.ntmps70
  go_wp2
  go_ret2
  exact ⟨rfl, HB.out⟩
set_option maxRecDepth 100000 in
set_option maxHeartbeats 8000000 in
theorem ends_7 (i : Int) (w : World) : Calls Try.prog 70 #[.int .i64 7, .int .i64 i] w fun e w' => e = .returned (.tuple #[.int .i64 (2), .int .i64 (256)]) ∧ Below w.heap.size w w' := by
  have HB := Aside0.mk (Below.refl w.heap.size w)
  go_enter Try.func70, Try.ntmps70
  go_wp2
  go_ret2
  exact ⟨rfl, HB.out⟩
set_option maxRecDepth 100000 in
set_option maxHeartbeats 8000000 in
theorem ends_8 (i : Int) (w : World) : Calls Try.prog 70 #[.int .i64 8, .int .i64 i] w fun e w' => e = .returned (.tuple #[.int .i64 (-262140), .int .i64 (262140)]) ∧ Below w.heap.size w w' := by
  have HB := Aside0.mk (Below.refl w.heap.size w)
  go_enter Try.func70, Try.ntmps70
  go_wp2
  go_ret2
  exact ⟨rfl, HB.out⟩
set_option maxRecDepth 100000 in
set_option maxHeartbeats 8000000 in
theorem ends_9 (i : Int) (w : World) : Calls Try.prog 70 #[.int .i64 9, .int .i64 i] w fun e w' => e = .returned (.tuple #[.int .i64 (0), .int .i64 (65535)]) ∧ Below w.heap.size w w' := by
  have HB := Aside0.mk (Below.refl w.heap.size w)
  go_enter Try.func70, Try.ntmps70
  go_wp2
  go_ret2
  exact ⟨rfl, HB.out⟩
set_option maxRecDepth 100000 in
set_option maxHeartbeats 8000000 in
theorem ends_10 (i : Int) (w : World) : Calls Try.prog 70 #[.int .i64 10, .int .i64 i] w fun e w' => e = .returned (.tuple #[.int .i64 (0), .int .i64 (65535)]) ∧ Below w.heap.size w w' := by
  have HB := Aside0.mk (Below.refl w.heap.size w)
  go_enter Try.func70, Try.ntmps70
  go_wp2
  go_ret2
  exact ⟨rfl, HB.out⟩
set_option maxRecDepth 100000 in
set_option maxHeartbeats 8000000 in
theorem ends_11a (i : Int) (w : World) (q : (i == 1) = false) : Calls Try.prog 70 #[.int .i64 11, .int .i64 i] w fun e w' => e = .returned (.tuple #[.int .i64 (-128), .int .i64 (128)]) ∧ Below w.heap.size w w' := by
  have HB := Aside0.mk (Below.refl w.heap.size w)
  go_enter Try.func70, Try.ntmps70
  go_wp2
  go_ret2
  exact ⟨rfl, HB.out⟩
set_option maxRecDepth 100000 in
set_option maxHeartbeats 8000000 in
theorem ends_11b (i : Int) (w : World) (q : (i == 1) = true) : Calls Try.prog 70 #[.int .i64 11, .int .i64 i] w fun e w' => e = .returned (.tuple #[.int .i64 (-65535), .int .i64 (65535)]) ∧ Below w.heap.size w w' := by
  have HB := Aside0.mk (Below.refl w.heap.size w)
  go_enter Try.func70, Try.ntmps70
  go_wp2
  go_ret2
  exact ⟨rfl, HB.out⟩
theorem ends_any (k i : Int) (w : World) (h0 : 1 ≤ k) (h1 : k ≤ 11) (i0 : 0 ≤ i) (i1 : k = 11 → i ≤ 1) : Calls Try.prog 70 #[.int .i64 k, .int .i64 i] w fun e w' => e = .returned (.tuple #[.int .i64 (spanLo k i), .int .i64 (spanHi k i)]) ∧ Below w.heap.size w w' := by
  have hk : k = 1 ∨ k = 2 ∨ k = 3 ∨ k = 4 ∨ k = 5 ∨ k = 6 ∨ k = 7 ∨ k = 8 ∨ k = 9 ∨ k = 10 ∨ k = 11 := by omega
  rcases hk with rfl | rfl | rfl | rfl | rfl | rfl | rfl | rfl | rfl | rfl | rfl
  · exact ends_1 i w
  · by_cases q : i = 2
    · subst q
      exact ends_2a 2 w (by decide)
    · have e1 : spanLo 2 i = 0 := by simp [spanLo, adjust_span.f, q]
      have e2 : spanHi 2 i = 65535 := by simp [spanHi, adjust_span.f, q]
      rw [e1, e2]
      exact ends_2b i w (by simpa using q)
  · exact ends_3 i w
  · exact ends_4 i w
  · by_cases q : i = 0
    · subst q
      exact ends_5a 0 w (by decide)
    · have e1 : spanLo 5 i = -65535 := by simp [spanLo, adjust_span.f, q]
      have e2 : spanHi 5 i = 65535 := by simp [spanHi, adjust_span.f, q]
      rw [e1, e2]
      exact ends_5b i w (decide_eq_true (by omega))
  · exact ends_6 i w
  · exact ends_7 i w
  · exact ends_8 i w
  · exact ends_9 i w
  · exact ends_10 i w
  · by_cases q : i = 0
    · subst q
      exact ends_11a 0 w (by decide)
    · have hi : i = 1 := by have := i1 rfl; omega
      subst hi
      exact ends_11b 1 w (by decide)
set_option maxRecDepth 100000 in
set_option maxHeartbeats 8000000 in
theorem rcheck_kind (k : Int) (P : Option Addr) (n cp : Nat) (sv : Value) (w : World) (h : k < 1 ∨ 11 < k) :
    Calls Try.prog 48 #[.int .i64 k, .slice P n cp, sv] w fun e w' => e = .returned (.int .i64 8) ∧ Below w.heap.size w w' := by
  rcases h with h | h
  · have q : decide (k < 1) = true := decide_eq_true h
    clear h
    have HB := Aside0.mk (Below.refl w.heap.size w)
    go_enter Try.func48, Try.ntmps48
    go_wp2_with fail
    go_ret
    exact ⟨rfl, HB.out⟩
  · have q : decide (k < 1) = false := decide_eq_false (by omega)
    have q2 : decide (11 < k) = true := decide_eq_true h
    clear h
    have HB := Aside0.mk (Below.refl w.heap.size w)
    go_enter Try.func48, Try.ntmps48
    go_wp2_with fail
    go_ret
    exact ⟨rfl, HB.out⟩
set_option maxRecDepth 100000 in
set_option maxHeartbeats 8000000 in
theorem rcheck_a (k lo hi : Int) (P : Option Addr) (n cp : Nat) (S : Option Addr) (m cs : Nat) (w : World) (h0 : ¬ k < 1) (h1 : ¬ 11 < k) (d1 : decide ((n : Int) < lo) = true)
    (HC : Aside0 (∀ w, Calls Try.prog 69 #[.int .i64 k] w fun e w' => e = .returned (.tuple #[.int .i64 lo, .int .i64 hi]) ∧ Below w.heap.size w w')) :
    Calls Try.prog 48 #[.int .i64 k, .slice P n cp, .slice S m cs] w fun e w' => e = .returned (.int .i64 1) ∧ Below w.heap.size w w' := by
  have q : decide (k < 1) = false := decide_eq_false h0
  have qq : decide (11 < k) = false := decide_eq_false h1
  have HB := Aside0.mk (Below.refl w.heap.size w)
  clear h0 h1
  go_enter Try.func48, Try.ntmps48
  go_wp2_with fail
  refine (HC.out _).mono ?_
  rintro e w1 ⟨rfl, hb⟩
  replace HB := Aside0.mk (step HB.out hb)
  clear hb
  dsimp only
  go_wp2
  go_ret
  exact ⟨rfl, HB.out⟩
set_option maxRecDepth 100000 in
set_option maxHeartbeats 8000000 in
theorem rcheck_b (k lo hi : Int) (P : Option Addr) (n cp : Nat) (S : Option Addr) (m cs : Nat) (w : World) (h0 : ¬ k < 1) (h1 : ¬ 11 < k) (d1 : decide ((n : Int) < lo) = false) (d2 : decide (hi < (n : Int)) = true)
    (HC : Aside0 (∀ w, Calls Try.prog 69 #[.int .i64 k] w fun e w' => e = .returned (.tuple #[.int .i64 lo, .int .i64 hi]) ∧ Below w.heap.size w w')) :
    Calls Try.prog 48 #[.int .i64 k, .slice P n cp, .slice S m cs] w fun e w' => e = .returned (.int .i64 1) ∧ Below w.heap.size w w' := by
  have q : decide (k < 1) = false := decide_eq_false h0
  have qq : decide (11 < k) = false := decide_eq_false h1
  have HB := Aside0.mk (Below.refl w.heap.size w)
  clear h0 h1
  go_enter Try.func48, Try.ntmps48
  go_wp2_with fail
  refine (HC.out _).mono ?_
  rintro e w1 ⟨rfl, hb⟩
  replace HB := Aside0.mk (step HB.out hb)
  clear hb
  dsimp only
  go_wp2
  go_ret
  exact ⟨rfl, HB.out⟩
set_option maxRecDepth 100000 in
set_option maxHeartbeats 8000000 in
theorem rcheck_c (k lo hi : Int) (P : Option Addr) (n cp : Nat) (S : Option Addr) (m cs : Nat) (w : World) (h0 : ¬ k < 1) (h1 : ¬ 11 < k) (d1 : decide ((n : Int) < lo) = false) (d2 : decide (hi < (n : Int)) = false) (d3 : (k == 3) = true) (d4 : ((n : Int) % 2 == 1) = true)
    (HC : Aside0 (∀ w, Calls Try.prog 69 #[.int .i64 k] w fun e w' => e = .returned (.tuple #[.int .i64 lo, .int .i64 hi]) ∧ Below w.heap.size w w')) :
    Calls Try.prog 48 #[.int .i64 k, .slice P n cp, .slice S m cs] w fun e w' => e = .returned (.int .i64 1) ∧ Below w.heap.size w w' := by
  have q : decide (k < 1) = false := decide_eq_false h0
  have qq : decide (11 < k) = false := decide_eq_false h1
  have HB := Aside0.mk (Below.refl w.heap.size w)
  clear h0 h1
  go_enter Try.func48, Try.ntmps48
  go_wp2_with fail
  refine (HC.out _).mono ?_
  rintro e w1 ⟨rfl, hb⟩
  replace HB := Aside0.mk (step HB.out hb)
  clear hb
  dsimp only
  go_wp2
  go_ret
  exact ⟨rfl, HB.out⟩
set_option maxRecDepth 100000 in
set_option maxHeartbeats 8000000 in
theorem rcheck_dt (k lo hi : Int) (P : Option Addr) (n cp : Nat) (S : Option Addr) (m cs : Nat) (w : World) (h0 : ¬ k < 1) (h1 : ¬ 11 < k) (d1 : decide ((n : Int) < lo) = false) (d2 : decide (hi < (n : Int)) = false) (d3 : (k == 3) = false) (d5 : decide (0 < m) = true) (d6 : (k == 10) = false)
    (HC : Aside0 (∀ w, Calls Try.prog 69 #[.int .i64 k] w fun e w' => e = .returned (.tuple #[.int .i64 lo, .int .i64 hi]) ∧ Below w.heap.size w w')) :
    Calls Try.prog 48 #[.int .i64 k, .slice P n cp, .slice S m cs] w fun e w' => e = .returned (.int .i64 1) ∧ Below w.heap.size w w' := by
  have q : decide (k < 1) = false := decide_eq_false h0
  have qq : decide (11 < k) = false := decide_eq_false h1
  have HB := Aside0.mk (Below.refl w.heap.size w)
  clear h0 h1
  go_enter Try.func48, Try.ntmps48
  go_wp2_with fail
  refine (HC.out _).mono ?_
  rintro e w1 ⟨rfl, hb⟩
  replace HB := Aside0.mk (step HB.out hb)
  clear hb
  dsimp only
  go_wp2
  go_ret
  exact ⟨rfl, HB.out⟩
set_option maxRecDepth 100000 in
set_option maxHeartbeats 8000000 in
theorem rcheck_df (k lo hi : Int) (P : Option Addr) (n cp : Nat) (S : Option Addr) (m cs : Nat) (w : World) (h0 : ¬ k < 1) (h1 : ¬ 11 < k) (d1 : decide ((n : Int) < lo) = false) (d2 : decide (hi < (n : Int)) = false) (d3 : (k == 3) = false) (d5 : decide (0 < m) = false) (d6 : (k == 10) = true)
    (HC : Aside0 (∀ w, Calls Try.prog 69 #[.int .i64 k] w fun e w' => e = .returned (.tuple #[.int .i64 lo, .int .i64 hi]) ∧ Below w.heap.size w w')) :
    Calls Try.prog 48 #[.int .i64 k, .slice P n cp, .slice S m cs] w fun e w' => e = .returned (.int .i64 1) ∧ Below w.heap.size w w' := by
  have q : decide (k < 1) = false := decide_eq_false h0
  have qq : decide (11 < k) = false := decide_eq_false h1
  have HB := Aside0.mk (Below.refl w.heap.size w)
  clear h0 h1
  go_enter Try.func48, Try.ntmps48
  go_wp2_with fail
  refine (HC.out _).mono ?_
  rintro e w1 ⟨rfl, hb⟩
  replace HB := Aside0.mk (step HB.out hb)
  clear hb
  dsimp only
  go_wp2
  go_ret
  exact ⟨rfl, HB.out⟩
set_option maxRecDepth 100000 in
set_option maxHeartbeats 8000000 in
theorem rcheck_det (k lo hi : Int) (P : Option Addr) (n cp : Nat) (S : Option Addr) (m cs : Nat) (w : World) (h0 : ¬ k < 1) (h1 : ¬ 11 < k) (d1 : decide ((n : Int) < lo) = false) (d2 : decide (hi < (n : Int)) = false) (d3 : (k == 3) = true) (d4 : ((n : Int) % 2 == 1) = false) (d5 : decide (0 < m) = true) (d6 : (k == 10) = false)
    (HC : Aside0 (∀ w, Calls Try.prog 69 #[.int .i64 k] w fun e w' => e = .returned (.tuple #[.int .i64 lo, .int .i64 hi]) ∧ Below w.heap.size w w')) :
    Calls Try.prog 48 #[.int .i64 k, .slice P n cp, .slice S m cs] w fun e w' => e = .returned (.int .i64 1) ∧ Below w.heap.size w w' := by
  have q : decide (k < 1) = false := decide_eq_false h0
  have qq : decide (11 < k) = false := decide_eq_false h1
  have HB := Aside0.mk (Below.refl w.heap.size w)
  clear h0 h1
  go_enter Try.func48, Try.ntmps48
  go_wp2_with fail
  refine (HC.out _).mono ?_
  rintro e w1 ⟨rfl, hb⟩
  replace HB := Aside0.mk (step HB.out hb)
  clear hb
  dsimp only
  go_wp2
  go_ret
  exact ⟨rfl, HB.out⟩
set_option maxRecDepth 100000 in
set_option maxHeartbeats 8000000 in
theorem rcheck_def (k lo hi : Int) (P : Option Addr) (n cp : Nat) (S : Option Addr) (m cs : Nat) (w : World) (h0 : ¬ k < 1) (h1 : ¬ 11 < k) (d1 : decide ((n : Int) < lo) = false) (d2 : decide (hi < (n : Int)) = false) (d3 : (k == 3) = true) (d4 : ((n : Int) % 2 == 1) = false) (d5 : decide (0 < m) = false) (d6 : (k == 10) = true)
    (HC : Aside0 (∀ w, Calls Try.prog 69 #[.int .i64 k] w fun e w' => e = .returned (.tuple #[.int .i64 lo, .int .i64 hi]) ∧ Below w.heap.size w w')) :
    Calls Try.prog 48 #[.int .i64 k, .slice P n cp, .slice S m cs] w fun e w' => e = .returned (.int .i64 1) ∧ Below w.heap.size w w' := by
  have q : decide (k < 1) = false := decide_eq_false h0
  have qq : decide (11 < k) = false := decide_eq_false h1
  have HB := Aside0.mk (Below.refl w.heap.size w)
  clear h0 h1
  go_enter Try.func48, Try.ntmps48
  go_wp2_with fail
  refine (HC.out _).mono ?_
  rintro e w1 ⟨rfl, hb⟩
  replace HB := Aside0.mk (step HB.out hb)
  clear hb
  dsimp only
  go_wp2
  go_ret
  exact ⟨rfl, HB.out⟩
set_option maxRecDepth 100000 in
set_option maxHeartbeats 8000000 in
theorem rcheck_lim (k lo hi : Int) (P : Option Addr) (n cp : Nat) (S : Option Addr) (m cs : Nat) (w : World) (h0 : ¬ k < 1) (h1 : ¬ 11 < k) (d1 : decide ((n : Int) < lo) = false) (d2 : decide (hi < (n : Int)) = false) (d3 : (k == 3) = false) (d5 : decide (0 < m) = true) (d6 : (k == 10) = true) (d7 : decide (16 < (m : Int)) = true)
    (HC : Aside0 (∀ w, Calls Try.prog 69 #[.int .i64 k] w fun e w' => e = .returned (.tuple #[.int .i64 lo, .int .i64 hi]) ∧ Below w.heap.size w w')) :
    Calls Try.prog 48 #[.int .i64 k, .slice P n cp, .slice S m cs] w fun e w' => e = .returned (.int .i64 3) ∧ Below w.heap.size w w' := by
  have q : decide (k < 1) = false := decide_eq_false h0
  have qq : decide (11 < k) = false := decide_eq_false h1
  have HB := Aside0.mk (Below.refl w.heap.size w)
  clear h0 h1
  go_enter Try.func48, Try.ntmps48
  go_wp2_with fail
  refine (HC.out _).mono ?_
  rintro e w1 ⟨rfl, hb⟩
  replace HB := Aside0.mk (step HB.out hb)
  clear hb
  dsimp only
  go_wp2
  go_ret
  exact ⟨rfl, HB.out⟩
set_option maxRecDepth 100000 in
set_option maxHeartbeats 16000000 in
theorem rcheck_other (k lo hi e0 : Int) (P : Option Addr) (cp : Nat) (l : List Int) (S : Option Addr) (cs : Nat) (w : World) (hp : Kd.C (Kd.int .i64) w P l.length l) (h0 : ¬ k < 1) (h1 : ¬ 11 < k) (k11 : k = 11 → l.length ≤ 2) (d6 : (k == 10) = false) (lm : l.length ≤ 100)
    (d1 : decide ((l.length : Int) < lo) = false) (d2 : decide (hi < (l.length : Int)) = false) (q9 : (k == 9) = false) (q2 : (k == 2) = false) (d3 : (k == 3) = false) (he : e0 = if ¬ InRange k l [] then 2 else if BadOrder k l [] then 24 else 0)
    (HC : Aside0 (∀ w, Calls Try.prog 69 #[.int .i64 k] w fun e w' => e = .returned (.tuple #[.int .i64 lo, .int .i64 hi]) ∧ Below w.heap.size w w')) :
    Calls Try.prog 48 #[.int .i64 k, .slice P l.length cp, .slice S 0 cs] w fun e w' => e = .returned (.int .i64 e0) ∧ Below w.heap.size w w' := by
  have HP := Aside0.mk hp
  have HE := Aside0.mk he
  have HK : Aside0 (k = 11 → l.length ≤ 2) := ⟨k11⟩
  have HD : Aside0 (∀ (i : Int) (w : World), 0 ≤ i → (k = 11 → i ≤ 1) → Calls Try.prog 70 #[.int .i64 k, .int .i64 i] w fun e w' => e = .returned (.tuple #[.int .i64 (spanLo k i), .int .i64 (spanHi k i)]) ∧ Below w.heap.size w w') := ⟨fun i w i0 i1 => ends_any k i w (by omega) (by omega) i0 i1⟩
  have H9 : Aside0 (¬ k = 9) := ⟨by simpa using q9⟩
  have HBo : Aside0 (¬ BadOrder k l []) := ⟨fun h => h.elim (fun h => by simp [h.1] at q2) (fun h => h.elim (fun h => by simp [h.1] at d3) (fun h => h (fun i hi => absurd hi (by simp))))⟩
  clear hp he
  have q : decide (k < 1) = false := decide_eq_false h0
  have qq : decide (11 < k) = false := decide_eq_false h1
  have HB := Aside0.mk (Below.refl w.heap.size w)
  clear h0 h1 k11
  go_enter Try.func48, Try.ntmps48
  go_wp2_with fail
  refine (HC.out _).mono ?_
  rintro e w1 ⟨rfl, hb⟩
  replace HB := Aside0.mk (step HB.out hb)
  clear hb
  dsimp only
  go_wp2
  go_loopw [9] (fun a wr => ∃ (i : Nat) (x : Int), a = .int .i64 x ∧ x = i ∧ i ≤ l.length ∧ Aside0 (∀ j : Nat, j < i → spanLo k j ≤ rd l j ∧ rd l j ≤ spanHi k j) ∧ Aside0 (Below w.heap.size w wr)) (fun a _ => l.length - (intOf a).toNat)
  case atStart => exact ⟨0, 0, rfl, rfl, by omega, ⟨fun j hj => by omega⟩, HB⟩
  case round =>
    clear HB
    obtain ⟨i, x, rfl, hx, hi, HJ, HB⟩ := hrel
    by_cases hlt : i < l.length
    · have b0 : 0 ≤ x := by omega
      have b1 : x < (l.length : Int) := by omega
      obtain ⟨ad, ea, x0⟩ := Kd.at_int HP.out x b0 b1
      have e1 := wi (x + 1) (by omega) (by omega)
      have HS1 := Aside0.mk (fun w => HD.out x w b0 (by have := HK.out; intro e; have := this e; omega))
      have hr : rd l i = rd l x := by rw [hx]
      have hs1 : spanLo k i = spanLo k x := by rw [hx]
      have hs2 : spanHi k i = spanHi k x := by rw [hx]
      have HX := Aside0.mk hx
      have x1 := kept HB.out x0
      clear hx x1
      subst ea
      go_wp2_with fail
      refine (HS1.out _).mono ?_
      rintro e w2 ⟨rfl, hb⟩
      have x1 := kept (step HB.out hb) x0
      replace HB := Aside0.mk (step HB.out hb)
      clear hb HS1
      dsimp only
      by_cases c1 : rd l x < spanLo k x
      · have HN : Aside0 (¬ InRange k l []) := ⟨fun h => by have := h.1 i hlt; rw [hr, hs1] at this; omega⟩
        have g1 : decide (rd l x < spanLo k x) = true := decide_eq_true c1
        clear c1 hr hs1 hs2
        go_wp2
        go_ret
        refine ⟨by rw [HE.out, if_pos HN.out]; rfl, ?_⟩
        with_reducible repeat (first | exact HB.out | refine pw_below_drewN ?_ _ | refine below_drew1 ?_)
      · by_cases c2 : spanHi k x < rd l x
        · have HN : Aside0 (¬ InRange k l []) := ⟨fun h => by have := h.1 i hlt; rw [hr, hs2] at this; omega⟩
          have g1 : decide (rd l x < spanLo k x) = false := decide_eq_false c1
          have g2 : decide (spanHi k x < rd l x) = true := decide_eq_true c2
          clear c1 c2 hr hs1 hs2
          go_wp2
          go_ret
          refine ⟨by rw [HE.out, if_pos HN.out]; rfl, ?_⟩
          with_reducible repeat (first | exact HB.out | refine pw_below_drewN ?_ _ | refine below_drew1 ?_)
        · have g1 : decide (rd l x < spanLo k x) = false := decide_eq_false c1
          have g2 : decide (spanHi k x < rd l x) = false := decide_eq_false c2
          have HJ2 : Aside0 (∀ j : Nat, j < i + 1 → spanLo k j ≤ rd l j ∧ rd l j ≤ spanHi k j) := ⟨fun j hj => by
            by_cases hji : j = i
            · subst hji
              rw [hr, hs1, hs2]
              omega
            · exact HJ.out j (by omega)⟩
          clear c1 c2 hr hs1 hs2
          go_wp2
          go_roundw
          case rel => exact ⟨i + 1, x + 1, rfl, by have := HX.out; omega, by omega, HJ2, HB⟩
          case measure => have := HX.out; simp [intOf]; omega
    · have b7 : ¬ x < (l.length : Int) := by omega
      have HSp : Aside0 (InSpan k l) := ⟨fun j hj => HJ.out j (by omega)⟩
      clear hx hlt HJ hi
      have HIn : Aside0 (InRange k l []) := ⟨⟨HSp.out, fun h => H9.out h.1, fun j hj => absurd hj (Nat.not_lt_zero j)⟩⟩
      go_wp2
      first | (go_region; go_wp2) | skip
      go_loopw [12] (fun a wr => a = .int .i64 0 ∧ Aside0 (Below w.heap.size w wr)) (fun _ _ => 0)
      case atStart => exact ⟨rfl, ⟨by with_reducible repeat (first | exact HB.out | refine pw_below_drewN ?_ _ | refine below_drew1 ?_)⟩⟩
      case round =>
        clear HB
        obtain ⟨rfl, HB⟩ := hrel
        go_wp2
        first | (go_region; go_wp2) | skip
        go_loopw [13] (fun a wr => a = .int .i64 2 ∧ Aside0 (Below w.heap.size w wr)) (fun _ _ => 0)
        case atStart => exact ⟨rfl, ⟨by with_reducible repeat (first | exact HB.out | refine pw_below_drewN ?_ _ | refine below_drew1 ?_)⟩⟩
        case round =>
          clear HB
          obtain ⟨rfl, HB⟩ := hrel
          go_wp2
          first | (go_region; go_wp2) | skip
          go_loopw [14] (fun a wr => a = .int .i64 1 ∧ Aside0 (Below w.heap.size w wr)) (fun _ _ => 0)
          case atStart => exact ⟨rfl, ⟨by with_reducible repeat (first | exact HB.out | refine pw_below_drewN ?_ _ | refine below_drew1 ?_)⟩⟩
          case round =>
            clear HB
            obtain ⟨rfl, HB⟩ := hrel
            go_wp2
            first | (go_region; go_wp2) | skip
            go_ret
            refine ⟨by rw [HE.out, if_neg (fun h => h HIn.out), if_neg HBo.out]; rfl, ?_⟩
            with_reducible repeat (first | exact HB.out | refine pw_below_drewN ?_ _ | refine below_drew1 ?_)
set_option maxRecDepth 100000 in
set_option maxHeartbeats 16000000 in
theorem rcheck_two (lo hi e0 : Int) (P : Option Addr) (cp : Nat) (l : List Int) (S : Option Addr) (cs : Nat) (w : World) (hp : Kd.C (Kd.int .i64) w P l.length l) (lm : l.length ≤ 100)
    (d1 : decide ((l.length : Int) < lo) = false) (d2 : decide (hi < (l.length : Int)) = false) (hl5 : Aside0 (l.length = 5)) (he : e0 = if ¬ InRange (2 : Int) l [] then 2 else if BadOrder (2 : Int) l [] then 24 else 0)
    (HC : Aside0 (∀ w, Calls Try.prog 69 #[.int .i64 (2 : Int)] w fun e w' => e = .returned (.tuple #[.int .i64 lo, .int .i64 hi]) ∧ Below w.heap.size w w')) :
    Calls Try.prog 48 #[.int .i64 (2 : Int), .slice P l.length cp, .slice S 0 cs] w fun e w' => e = .returned (.int .i64 e0) ∧ Below w.heap.size w w' := by
  have HP := Aside0.mk hp
  have HE := Aside0.mk he
  have HK : Aside0 ((2 : Int) = 11 → l.length ≤ 2) := ⟨fun h => absurd h (by decide)⟩
  have HD : Aside0 (∀ (i : Int) (w : World), 0 ≤ i → ((2 : Int) = 11 → i ≤ 1) → Calls Try.prog 70 #[.int .i64 (2 : Int), .int .i64 i] w fun e w' => e = .returned (.tuple #[.int .i64 (spanLo (2 : Int) i), .int .i64 (spanHi (2 : Int) i)]) ∧ Below w.heap.size w w') := ⟨fun i w i0 i1 => ends_any (2 : Int) i w (by omega) (by omega) i0 i1⟩
  clear hp he
  have HB := Aside0.mk (Below.refl w.heap.size w)
  go_enter Try.func48, Try.ntmps48
  go_wp2_with fail
  refine (HC.out _).mono ?_
  rintro e w1 ⟨rfl, hb⟩
  replace HB := Aside0.mk (step HB.out hb)
  clear hb
  dsimp only
  go_wp2
  go_loopw [9] (fun a wr => ∃ (i : Nat) (x : Int), a = .int .i64 x ∧ x = i ∧ i ≤ l.length ∧ Aside0 (∀ j : Nat, j < i → spanLo (2 : Int) j ≤ rd l j ∧ rd l j ≤ spanHi (2 : Int) j) ∧ Aside0 (Below w.heap.size w wr)) (fun a _ => l.length - (intOf a).toNat)
  case atStart => exact ⟨0, 0, rfl, rfl, by omega, ⟨fun j hj => by omega⟩, HB⟩
  case round =>
    clear HB
    obtain ⟨i, x, rfl, hx, hi, HJ, HB⟩ := hrel
    by_cases hlt : i < l.length
    · have b0 : 0 ≤ x := by omega
      have b1 : x < (l.length : Int) := by omega
      obtain ⟨ad, ea, x0⟩ := Kd.at_int HP.out x b0 b1
      have e1 := wi (x + 1) (by omega) (by omega)
      have HS1 := Aside0.mk (fun w => HD.out x w b0 (by have := HK.out; intro e; have := this e; omega))
      have hr : rd l i = rd l x := by rw [hx]
      have hs1 : spanLo (2 : Int) i = spanLo (2 : Int) x := by rw [hx]
      have hs2 : spanHi (2 : Int) i = spanHi (2 : Int) x := by rw [hx]
      have HX := Aside0.mk hx
      have x1 := kept HB.out x0
      clear hx x1
      subst ea
      go_wp2_with fail
      refine (HS1.out _).mono ?_
      rintro e w2 ⟨rfl, hb⟩
      have x1 := kept (step HB.out hb) x0
      replace HB := Aside0.mk (step HB.out hb)
      clear hb HS1
      dsimp only
      by_cases c1 : rd l x < spanLo (2 : Int) x
      · have HN : Aside0 (¬ InRange (2 : Int) l []) := ⟨fun h => by have := h.1 i hlt; rw [hr, hs1] at this; omega⟩
        have g1 : decide (rd l x < spanLo (2 : Int) x) = true := decide_eq_true c1
        clear c1 hr hs1 hs2
        go_wp2
        go_ret
        refine ⟨by rw [HE.out, if_pos HN.out]; rfl, ?_⟩
        with_reducible repeat (first | exact HB.out | refine pw_below_drewN ?_ _ | refine below_drew1 ?_)
      · by_cases c2 : spanHi (2 : Int) x < rd l x
        · have HN : Aside0 (¬ InRange (2 : Int) l []) := ⟨fun h => by have := h.1 i hlt; rw [hr, hs2] at this; omega⟩
          have g1 : decide (rd l x < spanLo (2 : Int) x) = false := decide_eq_false c1
          have g2 : decide (spanHi (2 : Int) x < rd l x) = true := decide_eq_true c2
          clear c1 c2 hr hs1 hs2
          go_wp2
          go_ret
          refine ⟨by rw [HE.out, if_pos HN.out]; rfl, ?_⟩
          with_reducible repeat (first | exact HB.out | refine pw_below_drewN ?_ _ | refine below_drew1 ?_)
        · have g1 : decide (rd l x < spanLo (2 : Int) x) = false := decide_eq_false c1
          have g2 : decide (spanHi (2 : Int) x < rd l x) = false := decide_eq_false c2
          have HJ2 : Aside0 (∀ j : Nat, j < i + 1 → spanLo (2 : Int) j ≤ rd l j ∧ rd l j ≤ spanHi (2 : Int) j) := ⟨fun j hj => by
            by_cases hji : j = i
            · subst hji
              rw [hr, hs1, hs2]
              omega
            · exact HJ.out j (by omega)⟩
          clear c1 c2 hr hs1 hs2
          go_wp2
          go_roundw
          case rel => exact ⟨i + 1, x + 1, rfl, by have := HX.out; omega, by omega, HJ2, HB⟩
          case measure => have := HX.out; simp [intOf]; omega
    · have b7 : ¬ x < (l.length : Int) := by omega
      have HSp : Aside0 (InSpan (2 : Int) l) := ⟨fun j hj => HJ.out j (by omega)⟩
      clear hx hlt HJ hi
      have HIn : Aside0 (InRange (2 : Int) l []) := ⟨⟨HSp.out, fun h => absurd h.1 (by decide), fun j hj => absurd hj (Nat.not_lt_zero j)⟩⟩
      go_wp2
      first | (go_region; go_wp2) | skip
      go_loopw [12] (fun a wr => a = .int .i64 0 ∧ Aside0 (Below w.heap.size w wr)) (fun _ _ => 0)
      case atStart => exact ⟨rfl, ⟨by with_reducible repeat (first | exact HB.out | refine pw_below_drewN ?_ _ | refine below_drew1 ?_)⟩⟩
      case round =>
        clear HB
        obtain ⟨rfl, HB⟩ := hrel
        go_wp2
        first | (go_region; go_wp2) | skip
        have hl_ := hl5.out
        obtain ⟨ad, ea, y0⟩ := Kd.at_int HP.out 0 (by omega) (by omega)
        obtain ⟨ad', e', y1⟩ := Kd.at_int HP.out 1 (by omega) (by omega)
        rw [ea] at e'
        obtain rfl : ad = ad' := by injection e'
        clear e'
        replace y0 := kept HB.out y0
        have l0_ : (0 : Int) < (l.length : Int) := by omega
        replace y1 := kept HB.out y1
        have l1_ : (1 : Int) < (l.length : Int) := by omega
        clear hl_
        simp [Addr.add] at y0 y1
        subst ea
        by_cases hq : rd l 1 ≤ rd l 0
        · have HBo : Aside0 (BadOrder 2 l []) := ⟨.inl ⟨rfl, hq⟩⟩
          have g0 : decide (rd l 1 ≤ rd l 0) = true := decide_eq_true hq
          clear hq
          go_wp2
          go_region
          go_wp2
          go_ret
          refine ⟨by rw [HE.out, if_neg (fun h => h HIn.out), if_pos HBo.out]; rfl, ?_⟩
          with_reducible repeat (first | exact HB.out | refine pw_below_drewN ?_ _ | refine below_drew1 ?_)
        · have HBo : Aside0 (¬ BadOrder 2 l []) := ⟨fun h => h.elim (fun h => hq h.2) (fun h => h.elim (fun h => absurd h.1 (by decide)) (fun h => h (fun i hi => absurd hi (by simp))))⟩
          have g0 : decide (rd l 1 ≤ rd l 0) = false := decide_eq_false hq
          clear hq
          go_wp2
          go_region
          go_wp2
          go_loopw [13] (fun a wr => a = .int .i64 2 ∧ Aside0 (Below w.heap.size w wr)) (fun _ _ => 0)
          case atStart => exact ⟨rfl, ⟨by with_reducible repeat (first | exact HB.out | refine pw_below_drewN ?_ _ | refine below_drew1 ?_)⟩⟩
          case round =>
            clear HB
            obtain ⟨rfl, HB⟩ := hrel
            go_wp2
            first | (go_region; go_wp2) | skip
            go_loopw [14] (fun a wr => a = .int .i64 1 ∧ Aside0 (Below w.heap.size w wr)) (fun _ _ => 0)
            case atStart => exact ⟨rfl, ⟨by with_reducible repeat (first | exact HB.out | refine pw_below_drewN ?_ _ | refine below_drew1 ?_)⟩⟩
            case round =>
              clear HB
              obtain ⟨rfl, HB⟩ := hrel
              go_wp2
              first | (go_region; go_wp2) | skip
              go_ret
              refine ⟨by rw [HE.out, if_neg (fun h => h HIn.out), if_neg HBo.out]; rfl, ?_⟩
              with_reducible repeat (first | exact HB.out | refine pw_below_drewN ?_ _ | refine below_drew1 ?_)
set_option maxRecDepth 100000 in
set_option maxHeartbeats 16000000 in
theorem rcheck_nine (lo hi e0 : Int) (P : Option Addr) (cp : Nat) (l : List Int) (S : Option Addr) (cs : Nat) (w : World) (hp : Kd.C (Kd.int .i64) w P l.length l) (lm : l.length ≤ 100)
    (d1 : decide ((l.length : Int) < lo) = false) (d2 : decide (hi < (l.length : Int)) = false) (hl5 : Aside0 (l.length = 3)) (he : e0 = if ¬ InRange (9 : Int) l [] then 2 else if BadOrder (9 : Int) l [] then 24 else 0)
    (HC : Aside0 (∀ w, Calls Try.prog 69 #[.int .i64 (9 : Int)] w fun e w' => e = .returned (.tuple #[.int .i64 lo, .int .i64 hi]) ∧ Below w.heap.size w w')) :
    Calls Try.prog 48 #[.int .i64 (9 : Int), .slice P l.length cp, .slice S 0 cs] w fun e w' => e = .returned (.int .i64 e0) ∧ Below w.heap.size w w' := by
  have HP := Aside0.mk hp
  have HE := Aside0.mk he
  have HK : Aside0 ((9 : Int) = 11 → l.length ≤ 2) := ⟨fun h => absurd h (by decide)⟩
  have HD : Aside0 (∀ (i : Int) (w : World), 0 ≤ i → ((9 : Int) = 11 → i ≤ 1) → Calls Try.prog 70 #[.int .i64 (9 : Int), .int .i64 i] w fun e w' => e = .returned (.tuple #[.int .i64 (spanLo (9 : Int) i), .int .i64 (spanHi (9 : Int) i)]) ∧ Below w.heap.size w w') := ⟨fun i w i0 i1 => ends_any (9 : Int) i w (by omega) (by omega) i0 i1⟩
  have HBo : Aside0 (¬ BadOrder 9 l []) := ⟨fun h => h.elim (fun h => absurd h.1 (by decide)) (fun h => h.elim (fun h => absurd h.1 (by decide)) (fun h => h (fun i hi => absurd hi (by simp))))⟩
  clear hp he
  have HB := Aside0.mk (Below.refl w.heap.size w)
  go_enter Try.func48, Try.ntmps48
  go_wp2_with fail
  refine (HC.out _).mono ?_
  rintro e w1 ⟨rfl, hb⟩
  replace HB := Aside0.mk (step HB.out hb)
  clear hb
  dsimp only
  go_wp2
  go_loopw [9] (fun a wr => ∃ (i : Nat) (x : Int), a = .int .i64 x ∧ x = i ∧ i ≤ l.length ∧ Aside0 (∀ j : Nat, j < i → spanLo (9 : Int) j ≤ rd l j ∧ rd l j ≤ spanHi (9 : Int) j) ∧ Aside0 (Below w.heap.size w wr)) (fun a _ => l.length - (intOf a).toNat)
  case atStart => exact ⟨0, 0, rfl, rfl, by omega, ⟨fun j hj => by omega⟩, HB⟩
  case round =>
    clear HB
    obtain ⟨i, x, rfl, hx, hi, HJ, HB⟩ := hrel
    by_cases hlt : i < l.length
    · have b0 : 0 ≤ x := by omega
      have b1 : x < (l.length : Int) := by omega
      obtain ⟨ad, ea, x0⟩ := Kd.at_int HP.out x b0 b1
      have e1 := wi (x + 1) (by omega) (by omega)
      have HS1 := Aside0.mk (fun w => HD.out x w b0 (by have := HK.out; intro e; have := this e; omega))
      have hr : rd l i = rd l x := by rw [hx]
      have hs1 : spanLo (9 : Int) i = spanLo (9 : Int) x := by rw [hx]
      have hs2 : spanHi (9 : Int) i = spanHi (9 : Int) x := by rw [hx]
      have HX := Aside0.mk hx
      have x1 := kept HB.out x0
      clear hx x1
      subst ea
      go_wp2_with fail
      refine (HS1.out _).mono ?_
      rintro e w2 ⟨rfl, hb⟩
      have x1 := kept (step HB.out hb) x0
      replace HB := Aside0.mk (step HB.out hb)
      clear hb HS1
      dsimp only
      by_cases c1 : rd l x < spanLo (9 : Int) x
      · have HN : Aside0 (¬ InRange (9 : Int) l []) := ⟨fun h => by have := h.1 i hlt; rw [hr, hs1] at this; omega⟩
        have g1 : decide (rd l x < spanLo (9 : Int) x) = true := decide_eq_true c1
        clear c1 hr hs1 hs2
        go_wp2
        go_ret
        refine ⟨by rw [HE.out, if_pos HN.out]; rfl, ?_⟩
        with_reducible repeat (first | exact HB.out | refine pw_below_drewN ?_ _ | refine below_drew1 ?_)
      · by_cases c2 : spanHi (9 : Int) x < rd l x
        · have HN : Aside0 (¬ InRange (9 : Int) l []) := ⟨fun h => by have := h.1 i hlt; rw [hr, hs2] at this; omega⟩
          have g1 : decide (rd l x < spanLo (9 : Int) x) = false := decide_eq_false c1
          have g2 : decide (spanHi (9 : Int) x < rd l x) = true := decide_eq_true c2
          clear c1 c2 hr hs1 hs2
          go_wp2
          go_ret
          refine ⟨by rw [HE.out, if_pos HN.out]; rfl, ?_⟩
          with_reducible repeat (first | exact HB.out | refine pw_below_drewN ?_ _ | refine below_drew1 ?_)
        · have g1 : decide (rd l x < spanLo (9 : Int) x) = false := decide_eq_false c1
          have g2 : decide (spanHi (9 : Int) x < rd l x) = false := decide_eq_false c2
          have HJ2 : Aside0 (∀ j : Nat, j < i + 1 → spanLo (9 : Int) j ≤ rd l j ∧ rd l j ≤ spanHi (9 : Int) j) := ⟨fun j hj => by
            by_cases hji : j = i
            · subst hji
              rw [hr, hs1, hs2]
              omega
            · exact HJ.out j (by omega)⟩
          clear c1 c2 hr hs1 hs2
          go_wp2
          go_roundw
          case rel => exact ⟨i + 1, x + 1, rfl, by have := HX.out; omega, by omega, HJ2, HB⟩
          case measure => have := HX.out; simp [intOf]; omega
    · have b7 : ¬ x < (l.length : Int) := by omega
      have HSp : Aside0 (InSpan (9 : Int) l) := ⟨fun j hj => HJ.out j (by omega)⟩
      clear hx hlt HJ hi
      have hl_ := hl5.out
      obtain ⟨ad, ea, y0⟩ := Kd.at_int HP.out 0 (by omega) (by omega)
      obtain ⟨ad', e', y1⟩ := Kd.at_int HP.out 1 (by omega) (by omega)
      rw [ea] at e'
      obtain rfl : ad = ad' := by injection e'
      clear e'
      obtain ⟨ad', e', y2⟩ := Kd.at_int HP.out 2 (by omega) (by omega)
      rw [ea] at e'
      obtain rfl : ad = ad' := by injection e'
      clear e'
      replace y0 := kept HB.out y0
      have l0_ : (0 : Int) < (l.length : Int) := by omega
      replace y1 := kept HB.out y1
      have l1_ : (1 : Int) < (l.length : Int) := by omega
      replace y2 := kept HB.out y2
      have l2_ : (2 : Int) < (l.length : Int) := by omega
      have s0_ := HSp.out 0 (by omega)
      have s1_ := HSp.out 1 (by omega)
      have s2_ := HSp.out 2 (by omega)
      clear hl_
      simp [spanLo, spanHi, adjust_span.f] at s0_ s1_ s2_
      simp [Addr.add] at y0 y1 y2
      subst ea
      by_cases z0_ : rd l 0 = 0
      · by_cases z1_ : rd l 1 = 0
        · by_cases z2_ : rd l 2 = 0
          · have HN : Aside0 (¬ InRange 9 l []) := ⟨fun h => h.2.1 ⟨rfl, by omega⟩⟩
            have g0 : (rd l 0 == 0) = true := by simpa using z0_
            have g1 : (rd l 1 == 0) = true := by simpa using z1_
            have g2 : (rd l 2 == 0) = true := by simpa using z2_
            clear z0_ z1_ z2_ s0_ s1_ s2_
            go_wp2
            go_ret
            refine ⟨by rw [HE.out, if_pos HN.out]; rfl, ?_⟩
            with_reducible repeat (first | exact HB.out | refine pw_below_drewN ?_ _ | refine below_drew1 ?_)
          · have HIn : Aside0 (InRange (9 : Int) l []) := ⟨⟨HSp.out, fun h => by have := h.2; omega, fun j hj => absurd hj (Nat.not_lt_zero j)⟩⟩
            have g0 : (rd l 0 == 0) = true := by simpa using z0_
            have g1 : (rd l 1 == 0) = true := by simpa using z1_
            have g2 : (rd l 2 == 0) = false := by simpa using z2_
            clear z0_ z1_ z2_ s0_ s1_ s2_
            go_wp2
            first | (go_region; go_wp2) | skip
            go_loopw [12] (fun a wr => a = .int .i64 0 ∧ Aside0 (Below w.heap.size w wr)) (fun _ _ => 0)
            case atStart => exact ⟨rfl, ⟨by with_reducible repeat (first | exact HB.out | refine pw_below_drewN ?_ _ | refine below_drew1 ?_)⟩⟩
            case round =>
              clear HB
              obtain ⟨rfl, HB⟩ := hrel
              go_wp2
              first | (go_region; go_wp2) | skip
              go_loopw [13] (fun a wr => a = .int .i64 2 ∧ Aside0 (Below w.heap.size w wr)) (fun _ _ => 0)
              case atStart => exact ⟨rfl, ⟨by with_reducible repeat (first | exact HB.out | refine pw_below_drewN ?_ _ | refine below_drew1 ?_)⟩⟩
              case round =>
                clear HB
                obtain ⟨rfl, HB⟩ := hrel
                go_wp2
                first | (go_region; go_wp2) | skip
                go_loopw [14] (fun a wr => a = .int .i64 1 ∧ Aside0 (Below w.heap.size w wr)) (fun _ _ => 0)
                case atStart => exact ⟨rfl, ⟨by with_reducible repeat (first | exact HB.out | refine pw_below_drewN ?_ _ | refine below_drew1 ?_)⟩⟩
                case round =>
                  clear HB
                  obtain ⟨rfl, HB⟩ := hrel
                  go_wp2
                  first | (go_region; go_wp2) | skip
                  go_ret
                  refine ⟨by rw [HE.out, if_neg (fun h => h HIn.out), if_neg HBo.out]; rfl, ?_⟩
                  with_reducible repeat (first | exact HB.out | refine pw_below_drewN ?_ _ | refine below_drew1 ?_)
        · have HIn : Aside0 (InRange (9 : Int) l []) := ⟨⟨HSp.out, fun h => by have := h.2; omega, fun j hj => absurd hj (Nat.not_lt_zero j)⟩⟩
          have g0 : (rd l 0 == 0) = true := by simpa using z0_
          have g1 : (rd l 1 == 0) = false := by simpa using z1_
          clear z0_ z1_ s0_ s1_ s2_
          go_wp2
          first | (go_region; go_wp2) | skip
          go_loopw [12] (fun a wr => a = .int .i64 0 ∧ Aside0 (Below w.heap.size w wr)) (fun _ _ => 0)
          case atStart => exact ⟨rfl, ⟨by with_reducible repeat (first | exact HB.out | refine pw_below_drewN ?_ _ | refine below_drew1 ?_)⟩⟩
          case round =>
            clear HB
            obtain ⟨rfl, HB⟩ := hrel
            go_wp2
            first | (go_region; go_wp2) | skip
            go_loopw [13] (fun a wr => a = .int .i64 2 ∧ Aside0 (Below w.heap.size w wr)) (fun _ _ => 0)
            case atStart => exact ⟨rfl, ⟨by with_reducible repeat (first | exact HB.out | refine pw_below_drewN ?_ _ | refine below_drew1 ?_)⟩⟩
            case round =>
              clear HB
              obtain ⟨rfl, HB⟩ := hrel
              go_wp2
              first | (go_region; go_wp2) | skip
              go_loopw [14] (fun a wr => a = .int .i64 1 ∧ Aside0 (Below w.heap.size w wr)) (fun _ _ => 0)
              case atStart => exact ⟨rfl, ⟨by with_reducible repeat (first | exact HB.out | refine pw_below_drewN ?_ _ | refine below_drew1 ?_)⟩⟩
              case round =>
                clear HB
                obtain ⟨rfl, HB⟩ := hrel
                go_wp2
                first | (go_region; go_wp2) | skip
                go_ret
                refine ⟨by rw [HE.out, if_neg (fun h => h HIn.out), if_neg HBo.out]; rfl, ?_⟩
                with_reducible repeat (first | exact HB.out | refine pw_below_drewN ?_ _ | refine below_drew1 ?_)
      · have HIn : Aside0 (InRange (9 : Int) l []) := ⟨⟨HSp.out, fun h => by have := h.2; omega, fun j hj => absurd hj (Nat.not_lt_zero j)⟩⟩
        have g0 : (rd l 0 == 0) = false := by simpa using z0_
        clear z0_ s0_ s1_ s2_
        go_wp2
        first | (go_region; go_wp2) | skip
        go_loopw [12] (fun a wr => a = .int .i64 0 ∧ Aside0 (Below w.heap.size w wr)) (fun _ _ => 0)
        case atStart => exact ⟨rfl, ⟨by with_reducible repeat (first | exact HB.out | refine pw_below_drewN ?_ _ | refine below_drew1 ?_)⟩⟩
        case round =>
          clear HB
          obtain ⟨rfl, HB⟩ := hrel
          go_wp2
          first | (go_region; go_wp2) | skip
          go_loopw [13] (fun a wr => a = .int .i64 2 ∧ Aside0 (Below w.heap.size w wr)) (fun _ _ => 0)
          case atStart => exact ⟨rfl, ⟨by with_reducible repeat (first | exact HB.out | refine pw_below_drewN ?_ _ | refine below_drew1 ?_)⟩⟩
          case round =>
            clear HB
            obtain ⟨rfl, HB⟩ := hrel
            go_wp2
            first | (go_region; go_wp2) | skip
            go_loopw [14] (fun a wr => a = .int .i64 1 ∧ Aside0 (Below w.heap.size w wr)) (fun _ _ => 0)
            case atStart => exact ⟨rfl, ⟨by with_reducible repeat (first | exact HB.out | refine pw_below_drewN ?_ _ | refine below_drew1 ?_)⟩⟩
            case round =>
              clear HB
              obtain ⟨rfl, HB⟩ := hrel
              go_wp2
              first | (go_region; go_wp2) | skip
              go_ret
              refine ⟨by rw [HE.out, if_neg (fun h => h HIn.out), if_neg HBo.out]; rfl, ?_⟩
              with_reducible repeat (first | exact HB.out | refine pw_below_drewN ?_ _ | refine below_drew1 ?_)
set_option maxRecDepth 100000 in
set_option maxHeartbeats 16000000 in
theorem rcheck_three (lo hi e0 : Int) (P : Option Addr) (cp : Nat) (l : List Int) (S : Option Addr) (cs : Nat) (w : World) (hp : Kd.C (Kd.int .i64) w P l.length l) (lm : l.length ≤ 100)
    (d1 : decide ((l.length : Int) < lo) = false) (d2 : decide (hi < (l.length : Int)) = false) (l16 : l.length ≤ 16) (l2 : l.length % 2 = 0) (l4 : 4 ≤ l.length) (d4 : ((l.length : Int) % 2 == 1) = false) (he : e0 = if ¬ InRange (3 : Int) l [] then 2 else if BadOrder (3 : Int) l [] then 24 else 0)
    (HC : Aside0 (∀ w, Calls Try.prog 69 #[.int .i64 (3 : Int)] w fun e w' => e = .returned (.tuple #[.int .i64 lo, .int .i64 hi]) ∧ Below w.heap.size w w')) :
    Calls Try.prog 48 #[.int .i64 (3 : Int), .slice P l.length cp, .slice S 0 cs] w fun e w' => e = .returned (.int .i64 e0) ∧ Below w.heap.size w w' := by
  have HP := Aside0.mk hp
  have HE := Aside0.mk he
  have HK : Aside0 ((3 : Int) = 11 → l.length ≤ 2) := ⟨fun h => absurd h (by decide)⟩
  have HD : Aside0 (∀ (i : Int) (w : World), 0 ≤ i → ((3 : Int) = 11 → i ≤ 1) → Calls Try.prog 70 #[.int .i64 (3 : Int), .int .i64 i] w fun e w' => e = .returned (.tuple #[.int .i64 (spanLo (3 : Int) i), .int .i64 (spanHi (3 : Int) i)]) ∧ Below w.heap.size w w') := ⟨fun i w i0 i1 => ends_any (3 : Int) i w (by omega) (by omega) i0 i1⟩
  clear hp he
  have HB := Aside0.mk (Below.refl w.heap.size w)
  go_enter Try.func48, Try.ntmps48
  go_wp2_with fail
  refine (HC.out _).mono ?_
  rintro e w1 ⟨rfl, hb⟩
  replace HB := Aside0.mk (step HB.out hb)
  clear hb
  dsimp only
  go_wp2
  go_loopw [9] (fun a wr => ∃ (i : Nat) (x : Int), a = .int .i64 x ∧ x = i ∧ i ≤ l.length ∧ Aside0 (∀ j : Nat, j < i → spanLo (3 : Int) j ≤ rd l j ∧ rd l j ≤ spanHi (3 : Int) j) ∧ Aside0 (Below w.heap.size w wr)) (fun a _ => l.length - (intOf a).toNat)
  case atStart => exact ⟨0, 0, rfl, rfl, by omega, ⟨fun j hj => by omega⟩, HB⟩
  case round =>
    clear HB
    obtain ⟨i, x, rfl, hx, hi, HJ, HB⟩ := hrel
    by_cases hlt : i < l.length
    · have b0 : 0 ≤ x := by omega
      have b1 : x < (l.length : Int) := by omega
      obtain ⟨ad, ea, x0⟩ := Kd.at_int HP.out x b0 b1
      have e1 := wi (x + 1) (by omega) (by omega)
      have HS1 := Aside0.mk (fun w => HD.out x w b0 (by have := HK.out; intro e; have := this e; omega))
      have hr : rd l i = rd l x := by rw [hx]
      have hs1 : spanLo (3 : Int) i = spanLo (3 : Int) x := by rw [hx]
      have hs2 : spanHi (3 : Int) i = spanHi (3 : Int) x := by rw [hx]
      have HX := Aside0.mk hx
      have x1 := kept HB.out x0
      clear hx x1
      subst ea
      go_wp2_with fail
      refine (HS1.out _).mono ?_
      rintro e w2 ⟨rfl, hb⟩
      have x1 := kept (step HB.out hb) x0
      replace HB := Aside0.mk (step HB.out hb)
      clear hb HS1
      dsimp only
      by_cases c1 : rd l x < spanLo (3 : Int) x
      · have HN : Aside0 (¬ InRange (3 : Int) l []) := ⟨fun h => by have := h.1 i hlt; rw [hr, hs1] at this; omega⟩
        have g1 : decide (rd l x < spanLo (3 : Int) x) = true := decide_eq_true c1
        clear c1 hr hs1 hs2
        go_wp2
        go_ret
        refine ⟨by rw [HE.out, if_pos HN.out]; rfl, ?_⟩
        with_reducible repeat (first | exact HB.out | refine pw_below_drewN ?_ _ | refine below_drew1 ?_)
      · by_cases c2 : spanHi (3 : Int) x < rd l x
        · have HN : Aside0 (¬ InRange (3 : Int) l []) := ⟨fun h => by have := h.1 i hlt; rw [hr, hs2] at this; omega⟩
          have g1 : decide (rd l x < spanLo (3 : Int) x) = false := decide_eq_false c1
          have g2 : decide (spanHi (3 : Int) x < rd l x) = true := decide_eq_true c2
          clear c1 c2 hr hs1 hs2
          go_wp2
          go_ret
          refine ⟨by rw [HE.out, if_pos HN.out]; rfl, ?_⟩
          with_reducible repeat (first | exact HB.out | refine pw_below_drewN ?_ _ | refine below_drew1 ?_)
        · have g1 : decide (rd l x < spanLo (3 : Int) x) = false := decide_eq_false c1
          have g2 : decide (spanHi (3 : Int) x < rd l x) = false := decide_eq_false c2
          have HJ2 : Aside0 (∀ j : Nat, j < i + 1 → spanLo (3 : Int) j ≤ rd l j ∧ rd l j ≤ spanHi (3 : Int) j) := ⟨fun j hj => by
            by_cases hji : j = i
            · subst hji
              rw [hr, hs1, hs2]
              omega
            · exact HJ.out j (by omega)⟩
          clear c1 c2 hr hs1 hs2
          go_wp2
          go_roundw
          case rel => exact ⟨i + 1, x + 1, rfl, by have := HX.out; omega, by omega, HJ2, HB⟩
          case measure => have := HX.out; simp [intOf]; omega
    · have b7 : ¬ x < (l.length : Int) := by omega
      have HSp : Aside0 (InSpan (3 : Int) l) := ⟨fun j hj => HJ.out j (by omega)⟩
      clear hx hlt HJ hi
      have HIn : Aside0 (InRange (3 : Int) l []) := ⟨⟨HSp.out, fun h => absurd h.1 (by decide), fun j hj => absurd hj (Nat.not_lt_zero j)⟩⟩
      go_wp2
      first | (go_region; go_wp2) | skip
      go_loopw [12] (fun a wr => a = .int .i64 0 ∧ Aside0 (Below w.heap.size w wr)) (fun _ _ => 0)
      case atStart => exact ⟨rfl, ⟨by with_reducible repeat (first | exact HB.out | refine pw_below_drewN ?_ _ | refine below_drew1 ?_)⟩⟩
      case round =>
        clear HB
        obtain ⟨rfl, HB⟩ := hrel
        go_wp2
        first | (go_region; go_wp2) | skip
        go_loopw [13] (fun a wr => ∃ (i : Nat) (x : Int), a = .int .i64 x ∧ x = 2 * i + 2 ∧ 2 * i + 2 ≤ l.length ∧ Aside0 (∀ j : Nat, j < i → rd l ((2 * j : Nat) : Int) < rd l ((2 * j + 2 : Nat) : Int)) ∧ Aside0 (Below w.heap.size w wr)) (fun a _ => l.length - (intOf a).toNat)
        case atStart => exact ⟨0, 2, rfl, rfl, by omega, ⟨fun j hj => by omega⟩, ⟨by with_reducible repeat (first | exact HB.out | refine pw_below_drewN ?_ _ | refine below_drew1 ?_)⟩⟩
        case round =>
          clear HB
          obtain ⟨i, x, rfl, hx, hil, HJ, HB⟩ := hrel
          by_cases hlt : 2 * i + 2 < l.length
          · obtain ⟨y, hy⟩ : ∃ y : Int, x - 2 = y := ⟨_, rfl⟩
            have b0 : 0 ≤ x := by omega
            have b1 : x < (l.length : Int) := by omega
            have b2 : 0 ≤ y := by omega
            have b3 : y < (l.length : Int) := by omega
            have b4 : 0 ≤ x - 2 := by omega
            have b5 : x - 2 < (l.length : Int) := by omega
            have b6 : 2 ≤ x := by omega
            obtain ⟨ad, e, x0⟩ := Kd.at_int HP.out x b0 b1
            obtain ⟨ad', e', y0⟩ := Kd.at_int HP.out y b2 b3
            rw [e] at e'
            obtain rfl : ad = ad' := by injection e'
            have hyn : y.toNat = (x - 2).toNat := by rw [hy]
            rw [hyn] at y0
            clear hyn e'
            replace x0 := kept HB.out x0
            replace y0 := kept HB.out y0
            have e1 := wi (x + 2) (by omega) (by omega)
            have e2 := wi (x - 2) (by omega) (by omega)
            have fx : rd l ((2 * i + 2 : Nat) : Int) = rd l x := by rw [hx]; rfl
            have fy : rd l ((2 * i : Nat) : Int) = rd l y := by rw [show ((2 * i : Nat) : Int) = y by omega]
            have HX := Aside0.mk hx
            by_cases hq : rd l x ≤ rd l y
            · have hN : ¬ OrdP l := fun h => by
                have h1 := h i hlt
                rw [fx, fy] at h1
                omega
              have HN := Aside0.mk hN
              have g0 : decide (rd l x ≤ rd l y) = true := decide_eq_true hq
              clear hN hq hx hy fx fy
              subst e
              go_wp2
              first | (go_region; go_wp2) | skip
              go_ret
              refine ⟨by rw [HE.out, if_neg (fun h => h HIn.out), if_pos (show BadOrder 3 l [] from .inr (.inl ⟨rfl, HN.out⟩))]; rfl, ?_⟩
              with_reducible repeat (first | exact HB.out | refine pw_below_drewN ?_ _ | refine below_drew1 ?_)
            · have g0 : decide (rd l x ≤ rd l y) = false := decide_eq_false hq
              have HJ2 : Aside0 (∀ j : Nat, j < i + 1 → rd l ((2 * j : Nat) : Int) < rd l ((2 * j + 2 : Nat) : Int)) := ⟨fun j hj => by
                by_cases hji : j = i
                · subst hji
                  rw [fx, fy]
                  omega
                · exact HJ.out j (by omega)⟩
              clear hq hx hy fx fy
              subst e
              go_wp2
              first | (go_region; go_wp2) | skip
              go_roundw
              case rel => exact ⟨i + 1, x + 2, rfl, by have := HX.out; omega, by omega, HJ2, ⟨by with_reducible repeat (first | exact HB.out | refine pw_below_drewN ?_ _ | refine below_drew1 ?_)⟩⟩
              case measure => have := HX.out; simp [intOf]; omega
          · have hN : OrdP l := fun j hj => HJ.out j (by omega)
            have b7 : ¬ x < (l.length : Int) := by omega
            have HN := Aside0.mk hN
            have HBo : Aside0 (¬ BadOrder 3 l []) := ⟨fun h => h.elim (fun h => absurd h.1 (by decide)) (fun h => h.elim (fun h => h.2 HN.out) (fun h => h (fun i hi => absurd hi (by simp))))⟩
            clear hN hx hlt HN
            go_wp2
            first | (go_region; go_wp2) | skip
            go_loopw [14] (fun a wr => a = .int .i64 1 ∧ Aside0 (Below w.heap.size w wr)) (fun _ _ => 0)
            case atStart => exact ⟨rfl, ⟨by with_reducible repeat (first | exact HB.out | refine pw_below_drewN ?_ _ | refine below_drew1 ?_)⟩⟩
            case round =>
              clear HB
              obtain ⟨rfl, HB⟩ := hrel
              go_wp2
              first | (go_region; go_wp2) | skip
              go_ret
              refine ⟨by rw [HE.out, if_neg (fun h => h HIn.out), if_neg HBo.out]; rfl, ?_⟩
              with_reducible repeat (first | exact HB.out | refine pw_below_drewN ?_ _ | refine below_drew1 ?_)
set_option maxRecDepth 100000 in
set_option maxHeartbeats 16000000 in
theorem rcheck_ten (lo hi e0 : Int) (P : Option Addr) (cp : Nat) (S : Option Addr) (cs : Nat) (s : List S74) (w : World) (hs : Kd.C k74 w S s.length s)
    (d1 : decide ((0 : Int) < lo) = false) (d2 : decide (hi < (0 : Int)) = false) (d5 : decide (0 < s.length) = true) (d7 : ¬ 16 < s.length) (he : e0 = if ¬ InRange 10 [] s then 2 else if BadOrder 10 [] s then 24 else 0)
    (HC : Aside0 (∀ w, Calls Try.prog 69 #[.int .i64 10] w fun e w' => e = .returned (.tuple #[.int .i64 lo, .int .i64 hi]) ∧ Below w.heap.size w w')) :
    Calls Try.prog 48 #[.int .i64 10, .slice P 0 cp, .slice S s.length cs] w fun e w' => e = .returned (.int .i64 e0) ∧ Below w.heap.size w w' := by
  have HQ := Aside0.mk hs
  have HE := Aside0.mk he
  have d8 : decide (16 < (s.length : Int)) = false := decide_eq_false (by omega)
  have HBo : Aside0 (BadOrder 10 [] s ↔ ¬ OrdS s) := ⟨by simp [BadOrder]⟩
  clear hs he
  have HB := Aside0.mk (Below.refl w.heap.size w)
  go_enter Try.func48, Try.ntmps48
  go_wp2_with fail
  refine (HC.out _).mono ?_
  rintro e w1 ⟨rfl, hb⟩
  replace HB := Aside0.mk (step HB.out hb)
  clear hb
  dsimp only
  go_wp2
  first | (go_region; go_wp2) | skip
  go_loopw [9] (fun a wr => a = .int .i64 0 ∧ Aside0 (Below w.heap.size w wr)) (fun _ _ => 0)
  case atStart => exact ⟨rfl, ⟨by with_reducible repeat (first | exact HB.out | refine pw_below_drewN ?_ _ | refine below_drew1 ?_)⟩⟩
  case round =>
    clear HB
    obtain ⟨rfl, HB⟩ := hrel
    go_wp2
    first | (go_region; go_wp2) | skip
    go_loopw [12] (fun a wr => ∃ (i : Nat) (x : Int), a = .int .i64 x ∧ x = i ∧ i ≤ s.length ∧ Aside0 (∀ j : Nat, j < i → 0 ≤ (st s j).f0 ∧ (st s j).f0 ≤ 65535 ∧ vldB (st s j).f1.f0 (st s j).f1.f1 (st s j).f1.f2 (st s j).f1.f3 = true) ∧ Aside0 (Below w.heap.size w wr)) (fun a _ => s.length - (intOf a).toNat)
    case atStart => exact ⟨0, 0, rfl, rfl, by omega, ⟨fun j hj => by omega⟩, HB⟩
    case round =>
      clear HB
      obtain ⟨i, x, rfl, hx, hi, HJ, HB⟩ := hrel
      by_cases hlt : i < s.length
      · have b0 : 0 ≤ x := by omega
        have b1 : x < (s.length : Int) := by omega
        obtain ⟨ad, ea, x0, x1, x2, x3, x4⟩ := at_T74 HQ.out x b0 b1
        replace x0 := kept HB.out x0
        replace x1 := kept HB.out x1
        replace x2 := kept HB.out x2
        replace x3 := kept HB.out x3
        replace x4 := kept HB.out x4
        have e1 := wi (x + 1) (by omega) (by omega)
        have fx : st s i = rd_T74 s x := by rw [hx]
        have HX := Aside0.mk hx
        clear hx
        subst ea
        by_cases c1 : (rd_T74 s x).f0 < 0
        · have g1 : decide ((rd_T74 s x).f0 < 0) = true := decide_eq_true c1
          have HN : Aside0 (¬ InRange 10 [] s) := ⟨fun h => by have := h.2.2 i hlt; rw [fx] at this; omega⟩
          clear c1 fx
          go_wp2
          go_ret
          refine ⟨by rw [HE.out, if_pos HN.out]; rfl, ?_⟩
          with_reducible repeat (first | exact HB.out | refine pw_below_drewN ?_ _ | refine below_drew1 ?_)
        · have g1 : decide ((rd_T74 s x).f0 < 0) = false := decide_eq_false c1
          by_cases c2 : 65535 < (rd_T74 s x).f0
          · have g2 : decide (65535 < (rd_T74 s x).f0) = true := decide_eq_true c2
            have HN : Aside0 (¬ InRange 10 [] s) := ⟨fun h => by have := h.2.2 i hlt; rw [fx] at this; omega⟩
            clear c1 c2 fx
            go_wp2
            go_ret
            refine ⟨by rw [HE.out, if_pos HN.out]; rfl, ?_⟩
            with_reducible repeat (first | exact HB.out | refine pw_below_drewN ?_ _ | refine below_drew1 ?_)
          · have g2 : decide (65535 < (rd_T74 s x).f0) = false := decide_eq_false c2
            have HV := Aside0.mk (fun w => ValidR (rd_T74 s x).f1.f0 (rd_T74 s x).f1.f1 (rd_T74 s x).f1.f2 (rd_T74 s x).f1.f3 w)
            obtain ⟨vb, hvb⟩ : ∃ vb, vldB (rd_T74 s x).f1.f0 (rd_T74 s x).f1.f1 (rd_T74 s x).f1.f2 (rd_T74 s x).f1.f3 = vb := ⟨_, rfl⟩
            rw [hvb] at HV
            have HVB := Aside0.mk hvb
            have FX := Aside0.mk fx
            have C1 := Aside0.mk c1
            have C2 := Aside0.mk c2
            clear c1 c2 hvb fx
            go_wp2_with fail
            refine (HV.out _).mono ?_
            rintro e w2 ⟨rfl, hb⟩
            replace HB := Aside0.mk (step HB.out hb)
            clear hb x0 x1 x2 x3 x4 HV
            dsimp only
            cases vb
            · have HN : Aside0 (¬ InRange 10 [] s) := ⟨fun h => by have := (h.2.2 i hlt).2.2; rw [FX.out, HVB.out] at this; exact absurd this (by decide)⟩
              go_wp2
              go_ret
              refine ⟨by rw [HE.out, if_pos HN.out]; rfl, ?_⟩
              with_reducible repeat (first | exact HB.out | refine pw_below_drewN ?_ _ | refine below_drew1 ?_)
            · have HJ2 : Aside0 (∀ j : Nat, j < i + 1 → 0 ≤ (st s j).f0 ∧ (st s j).f0 ≤ 65535 ∧ vldB (st s j).f1.f0 (st s j).f1.f1 (st s j).f1.f2 (st s j).f1.f3 = true) := ⟨fun j hj => by
                by_cases hji : j = i
                · subst hji
                  rw [FX.out]
                  exact ⟨by have := C1.out; omega, by have := C2.out; omega, HVB.out⟩
                · exact HJ.out j (by omega)⟩
              go_wp2
              go_roundw
              case rel => exact ⟨i + 1, x + 1, rfl, by have := HX.out; omega, by omega, HJ2, HB⟩
              case measure => have := HX.out; simp [intOf]; omega
      · have b8 : ¬ x < (s.length : Int) := by omega
        have HOk : Aside0 (OkStops s) := ⟨fun j hj => HJ.out j (by omega)⟩
        have HIn : Aside0 (InRange 10 [] s) := ⟨⟨fun j hj => absurd hj (Nat.not_lt_zero j), fun h => absurd h.1 (by decide), HOk.out⟩⟩
        clear hx hlt HJ hi
        go_wp2
        first | (go_region; go_wp2) | skip
        go_loopw [13] (fun a wr => a = .int .i64 2 ∧ Aside0 (Below w.heap.size w wr)) (fun _ _ => 0)
        case atStart => exact ⟨rfl, ⟨by with_reducible repeat (first | exact HB.out | refine pw_below_drewN ?_ _ | refine below_drew1 ?_)⟩⟩
        case round =>
          clear HB
          obtain ⟨rfl, HB⟩ := hrel
          go_wp2
          first | (go_region; go_wp2) | skip
          go_loopw [14] (fun a wr => ∃ (i : Nat) (x : Int), a = .int .i64 x ∧ x = i ∧ 1 ≤ i ∧ (i ≤ s.length ∨ i = 1) ∧ Aside0 (∀ j : Nat, j + 1 < i → (st s j).f0 < (st s (j + 1)).f0) ∧ Aside0 (Below w.heap.size w wr)) (fun a _ => s.length - (intOf a).toNat)
          case atStart => exact ⟨1, 1, rfl, rfl, by omega, .inr rfl, ⟨fun j hj => by omega⟩, HB⟩
          case round =>
            clear HB
            obtain ⟨i, x, rfl, hx, hi, hil, HJ, HB⟩ := hrel
            by_cases hlt : i < s.length
            · obtain ⟨y, hy⟩ : ∃ y : Int, x - 1 = y := ⟨_, rfl⟩
              have b0 : 0 ≤ x := by omega
              have b1 : x < (s.length : Int) := by omega
              have b2 : 0 ≤ y := by omega
              have b3 : y < (s.length : Int) := by omega
              have b4 : 0 ≤ x - 1 := by omega
              have b5 : x - 1 < (s.length : Int) := by omega
              have b6 : 1 ≤ x := by omega
              obtain ⟨ad, e, x0, _⟩ := at_T74 HQ.out x b0 b1
              obtain ⟨ad', e', y0, _⟩ := at_T74 HQ.out y b2 b3
              rw [e] at e'
              obtain rfl : ad = ad' := by injection e'
              have hyn : y.toNat = x.toNat - 1 := by omega
              rw [hyn] at y0
              clear hyn e'
              replace x0 := kept HB.out x0
              replace y0 := kept HB.out y0
              have e1 := wi (x + 1) (by omega) (by omega)
              have e2 := wi (x - 1) (by omega) (by omega)
              rw [hy] at e2
              have fx : st s i = rd_T74 s x := by rw [hx]
              have fy : st s (i - 1) = rd_T74 s y := by unfold st; rw [show ((i - 1 : Nat) : Int) = y by omega]
              have HX := Aside0.mk hx
              have FX := Aside0.mk fx
              have FY := Aside0.mk fy
              by_cases hq : (rd_T74 s x).f0 ≤ (rd_T74 s y).f0
              · have hN : ¬ OrdS s := fun h => by
                  have h1 := h (i - 1) (by omega)
                  rw [show i - 1 + 1 = i by omega, fx, fy] at h1
                  omega
                have HN := Aside0.mk hN
                have g0 : decide ((rd_T74 s x).f0 ≤ (rd_T74 s y).f0) = true := decide_eq_true hq
                clear hN hq hx hy fx fy
                subst e
                go_wp2
                first | (go_region; go_wp2) | skip
                go_ret
                refine ⟨by rw [HE.out, if_neg (fun h => h HIn.out), if_pos (HBo.out.2 HN.out)]; rfl, ?_⟩
                with_reducible repeat (first | exact HB.out | refine pw_below_drewN ?_ _ | refine below_drew1 ?_)
              · have g0 : decide ((rd_T74 s x).f0 ≤ (rd_T74 s y).f0) = false := decide_eq_false hq
                have HJ2 : Aside0 (∀ j : Nat, j + 1 < i + 1 → (st s j).f0 < (st s (j + 1)).f0) := ⟨fun j hj => by
                  by_cases hji : j + 1 = i
                  · obtain rfl : j = i - 1 := by omega
                    rw [show i - 1 + 1 = i by omega, fx, fy]
                    omega
                  · exact HJ.out j (by omega)⟩
                clear hq hx hy fx fy
                subst e
                go_wp2
                first | (go_region; go_wp2) | skip
                go_roundw
                case rel => exact ⟨i + 1, x + 1, rfl, by have := HX.out; omega, by omega, .inl (by omega), HJ2, ⟨by with_reducible repeat (first | exact HB.out | refine pw_below_drewN ?_ _ | refine below_drew1 ?_)⟩⟩
                case measure => have := HX.out; simp [intOf]; omega
            · have hN : OrdS s := fun j hj => HJ.out j (by omega)
              have b7 : ¬ x < (s.length : Int) := by omega
              have HN := Aside0.mk hN
              clear hN hx hlt
              go_wp2
              go_ret
              refine ⟨by rw [HE.out, if_neg (fun h => h HIn.out), if_neg (fun h => HBo.out.1 h HN.out)]; rfl, ?_⟩
              with_reducible repeat (first | exact HB.out | refine pw_below_drewN ?_ _ | refine below_drew1 ?_)
theorem count_lo {k : Int} {n : Nat} (h1 : ¬ (k < 1 ∨ 11 < k)) (h : countOk k n = true) : cLo k ≤ n ∧ n ≤ cHi k ∧ (k = 3 → (n : Int) % 2 = 0) := by
  have hk : k = 1 ∨ k = 2 ∨ k = 3 ∨ k = 4 ∨ k = 5 ∨ k = 6 ∨ k = 7 ∨ k = 8 ∨ k = 9 ∨ k = 10 ∨ k = 11 := by omega
  rcases hk with rfl | rfl | rfl | rfl | rfl | rfl | rfl | rfl | rfl | rfl | rfl <;> simp [countOk, cLo, cHi] at h ⊢ <;> omega
theorem count_of {k : Int} {n : Nat} (h1 : ¬ (k < 1 ∨ 11 < k)) (a : cLo k ≤ n) (b : n ≤ cHi k) (c : k = 3 → (n : Int) % 2 = 0) : countOk k n = true := by
  have hk : k = 1 ∨ k = 2 ∨ k = 3 ∨ k = 4 ∨ k = 5 ∨ k = 6 ∨ k = 7 ∨ k = 8 ∨ k = 9 ∨ k = 10 ∨ k = 11 := by omega
  rcases hk with rfl | rfl | rfl | rfl | rfl | rfl | rfl | rfl | rfl | rfl | rfl <;> simp [countOk, cLo, cHi] at a b c ⊢ <;> omega
theorem rcheck_any (k : Int) (P : Option Addr) (cp : Nat) (l : List Int) (S : Option Addr) (cs : Nat) (s : List S74) (w : World) (hp : Kd.C (Kd.int .i64) w P l.length l) (hs : Kd.C k74 w S s.length s) :
    Calls Try.prog 48 #[.int .i64 k, .slice P l.length cp, .slice S s.length cs] w fun e w' => e = .returned (.int .i64 (checkV k l s)) ∧ Below w.heap.size w w' := by
  unfold checkV
  by_cases h1 : k < 1 ∨ 11 < k
  · rw [if_pos h1]
    exact rcheck_kind k P l.length cp _ w h1
  rw [if_neg h1]
  have h0 : ¬ k < 1 := fun h => h1 (.inl h)
  have h11 : ¬ 11 < k := fun h => h1 (.inr h)
  have HC : Aside0 (∀ w, Calls Try.prog 69 #[.int .i64 k] w fun e w' => e = .returned (.tuple #[.int .i64 (cLo k), .int .i64 (cHi k)]) ∧ Below w.heap.size w w') := ⟨fun w => counts_any k w (by omega) (by omega)⟩
  by_cases d1 : (l.length : Int) < cLo k
  · rw [if_pos (.inl (Bool.eq_false_iff.2 fun h => absurd (count_lo h1 h).1 (by omega)))]
    exact rcheck_a k _ _ P l.length cp S s.length cs w h0 h11 (decide_eq_true d1) HC
  by_cases d2 : cHi k < (l.length : Int)
  · rw [if_pos (.inl (Bool.eq_false_iff.2 fun h => absurd (count_lo h1 h).2.1 (by omega)))]
    exact rcheck_b k _ _ P l.length cp S s.length cs w h0 h11 (decide_eq_false d1) (decide_eq_true d2) HC
  by_cases d4 : k = 3 ∧ (l.length : Int) % 2 = 1
  · rw [if_pos (.inl (Bool.eq_false_iff.2 fun h => absurd ((count_lo h1 h).2.2 d4.1) (by omega)))]
    exact rcheck_c k _ _ P l.length cp S s.length cs w h0 h11 (decide_eq_false d1) (decide_eq_false d2) (by simpa using d4.1) (by simpa using d4.2) HC
  have c1 : countOk k l.length = true := count_of h1 (by omega) (by omega) (fun h => by have := fun e => d4 ⟨h, e⟩; omega)
  have p4 : k = 3 → ((l.length : Int) % 2 == 1) = false := fun h => by have := fun e => d4 ⟨h, e⟩; simpa using this
  by_cases d6 : (k == 10) = decide (0 < s.length)
  · have hb : ¬ BadCount k l s := fun h => h.elim (fun h => by rw [c1] at h; cases h) (fun h => h d6)
    rw [if_neg hb]
    by_cases k10 : k = 10
    · subst k10
      have hs0 : decide (0 < s.length) = true := d6.symm.trans (by decide)
      have hl : l = [] := List.length_eq_zero_iff.1 (by simp [countOk] at c1; simpa using c1)
      subst hl
      by_cases d7 : 16 < s.length
      · rw [if_pos d7]
        exact rcheck_lim 10 _ _ P 0 cp S s.length cs w (by decide) (by decide) (by decide) (by decide) (by decide) hs0 (by decide) (decide_eq_true (by omega)) HC
      · rw [if_neg d7]
        exact rcheck_ten _ _ _ P cp S cs s w hs (by decide) (by decide) hs0 d7 rfl HC
    · have hs0 : s = [] := List.length_eq_zero_iff.1 (by have : decide (0 < s.length) = false := d6.symm.trans (by simpa using k10); simpa using this)
      subst hs0
      rw [if_neg (by decide)]
      have lm := count_small c1
      by_cases k2 : k = 2
      · subst k2
        exact rcheck_two _ _ _ P cp l S cs w hp lm (decide_eq_false d1) (decide_eq_false d2) ⟨by simp [countOk] at c1; omega⟩ rfl HC
      by_cases k9 : k = 9
      · subst k9
        exact rcheck_nine _ _ _ P cp l S cs w hp lm (decide_eq_false d1) (decide_eq_false d2) ⟨by simp [countOk] at c1; omega⟩ rfl HC
      by_cases k3 : k = 3
      · subst k3
        have hl : 4 ≤ l.length ∧ l.length ≤ 16 ∧ l.length % 2 = 0 := by simp [countOk] at c1; omega
        exact rcheck_three _ _ _ P cp l S cs w hp lm (decide_eq_false d1) (decide_eq_false d2) hl.2.1 hl.2.2 hl.1 (p4 rfl) rfl HC
      · exact rcheck_other k _ _ _ P cp l S cs w hp h0 h11 (fun h => by subst h; simp [countOk] at c1; omega) (by simpa using k10) lm (decide_eq_false d1) (decide_eq_false d2) (by simpa using k9) (by simpa using k2) (by simpa using k3) rfl HC
  · rw [if_pos (.inr d6)]
    have e1 := decide_eq_false d1
    have e2 := decide_eq_false d2
    by_cases k3 : (k == 3) = true
    · have q4 := p4 (by simpa using k3)
      by_cases m : 0 < s.length
      · exact rcheck_det k _ _ P l.length cp S s.length cs w h0 h11 e1 e2 k3 q4 (decide_eq_true m) (by simpa [decide_eq_true m] using d6) HC
      · exact rcheck_def k _ _ P l.length cp S s.length cs w h0 h11 e1 e2 k3 q4 (decide_eq_false m) (by simpa [decide_eq_false m] using d6) HC
    · have k3 := Bool.eq_false_iff.2 k3
      by_cases m : 0 < s.length
      · exact rcheck_dt k _ _ P l.length cp S s.length cs w h0 h11 e1 e2 k3 (decide_eq_true m) (by simpa [decide_eq_true m] using d6) HC
      · exact rcheck_df k _ _ P l.length cp S s.length cs w h0 h11 e1 e2 k3 (decide_eq_false m) (by simpa [decide_eq_false m] using d6) HC
end Go.Proofs.Ytmgpmpiondciiaa.Adj
