/- adjust.Default and the reference's give the same; imageeditorlaw17.AdjustChecks answers true. No condition but that the slices lie in memory. -/
import Derived.Test.YtmgpmpiondciiaaAdjRefChk
import Derived.Test.YtmgpmpiondciiaaAdjAwake
namespace Go.Proofs.Ytmgpmpiondciiaa.Adj
open Go.RowKit Go.Proofs.Ytmgpmpiondciiaa.PAdjustImages Go.Proofs.YtmgpmpiondciiaaW.PrintWords Go.Proofs.YtmgpmpiondciiaaW.PrintMore Go.Proofs.Ytmgpmpiondciiaa.Plain
def Gives (f : Nat) (k : Int) (l : List Int) (e0 : Int) (w : World) : Prop := Calls Try.prog f #[.int .i64 k] w fun e w' => ∃ P, e = .returned (.tuple #[.slice P l.length l.length, .int .i64 e0]) ∧ Ints w' P l ∧ Below w.heap.size w w'
set_option maxRecDepth 100000 in
theorem def46_1 (w : World) : Gives 46 1 [] 0 w := by
  have HB := Aside0.mk (Below.refl w.heap.size w)
  unfold Gives
  go_enter Try.func46, Try.ntmps46
  go_wp2
  refine bodyPost_ret (v := .tuple #[.slice none 0 0, .int .i64 0]) (by simp [results, Try.results46, go_sem]) rfl ⟨none, rfl, ints_none _, HB.out⟩
set_option maxRecDepth 100000 in
theorem def46_2 (w : World) : Gives 46 2 [0, 65535, 16, 0, 65535] 0 w := by
  have HN := Aside0.mk (blk_new w (.cells #[.int .i64 0, .int .i64 65535, .int .i64 16, .int .i64 0, .int .i64 65535] 3))
  have HB := Aside0.mk (below_alloc (Below.refl w.heap.size w) (.cells #[.int .i64 0, .int .i64 65535, .int .i64 16, .int .i64 0, .int .i64 65535] 3))
  unfold Gives
  go_enter Try.func46, Try.ntmps46
  go_wp2
  refine bodyPost_ret (v := .tuple #[.slice (some ⟨w.heap.size, 0, none⟩) 5 5, .int .i64 0]) (by simp [results, Try.results46, go_sem]) rfl ⟨_, rfl, ints_blk HN.out (by decide), HB.out⟩
set_option maxRecDepth 100000 in
theorem def46_3 (w : World) : Gives 46 3 [0, 0, 65535, 65535] 0 w := by
  have HN := Aside0.mk (blk_new w (.cells #[.int .i64 0, .int .i64 0, .int .i64 65535, .int .i64 65535] 3))
  have HB := Aside0.mk (below_alloc (Below.refl w.heap.size w) (.cells #[.int .i64 0, .int .i64 0, .int .i64 65535, .int .i64 65535] 3))
  unfold Gives
  go_enter Try.func46, Try.ntmps46
  go_wp2
  refine bodyPost_ret (v := .tuple #[.slice (some ⟨w.heap.size, 0, none⟩) 4 4, .int .i64 0]) (by simp [results, Try.results46, go_sem]) rfl ⟨_, rfl, ints_blk HN.out (by decide), HB.out⟩
set_option maxRecDepth 100000 in
theorem def46_4 (w : World) : Gives 46 4 [0, 0] 0 w := by
  have HN := Aside0.mk (blk_new w (.cells #[.int .i64 0, .int .i64 0] 3))
  have HB := Aside0.mk (below_alloc (Below.refl w.heap.size w) (.cells #[.int .i64 0, .int .i64 0] 3))
  unfold Gives
  go_enter Try.func46, Try.ntmps46
  go_wp2
  refine bodyPost_ret (v := .tuple #[.slice (some ⟨w.heap.size, 0, none⟩) 2 2, .int .i64 0]) (by simp [results, Try.results46, go_sem]) rfl ⟨_, rfl, ints_blk HN.out (by decide), HB.out⟩
set_option maxRecDepth 100000 in
theorem def46_5 (w : World) : Gives 46 5 [0, 0, 0] 0 w := by
  have HN := Aside0.mk (blk_new w (.cells #[.int .i64 0, .int .i64 0, .int .i64 0] 3))
  have HB := Aside0.mk (below_alloc (Below.refl w.heap.size w) (.cells #[.int .i64 0, .int .i64 0, .int .i64 0] 3))
  unfold Gives
  go_enter Try.func46, Try.ntmps46
  go_wp2
  refine bodyPost_ret (v := .tuple #[.slice (some ⟨w.heap.size, 0, none⟩) 3 3, .int .i64 0]) (by simp [results, Try.results46, go_sem]) rfl ⟨_, rfl, ints_blk HN.out (by decide), HB.out⟩
set_option maxRecDepth 100000 in
theorem def46_6 (w : World) : Gives 46 6 [32768] 0 w := by
  have HN := Aside0.mk (blk_new w (.cells #[.int .i64 32768] 3))
  have HB := Aside0.mk (below_alloc (Below.refl w.heap.size w) (.cells #[.int .i64 32768] 3))
  unfold Gives
  go_enter Try.func46, Try.ntmps46
  go_wp2
  refine bodyPost_ret (v := .tuple #[.slice (some ⟨w.heap.size, 0, none⟩) 1 1, .int .i64 0]) (by simp [results, Try.results46, go_sem]) rfl ⟨_, rfl, ints_blk HN.out (by decide), HB.out⟩
set_option maxRecDepth 100000 in
theorem def46_7 (w : World) : Gives 46 7 [4] 0 w := by
  have HN := Aside0.mk (blk_new w (.cells #[.int .i64 4] 3))
  have HB := Aside0.mk (below_alloc (Below.refl w.heap.size w) (.cells #[.int .i64 4] 3))
  unfold Gives
  go_enter Try.func46, Try.ntmps46
  go_wp2
  refine bodyPost_ret (v := .tuple #[.slice (some ⟨w.heap.size, 0, none⟩) 1 1, .int .i64 0]) (by simp [results, Try.results46, go_sem]) rfl ⟨_, rfl, ints_blk HN.out (by decide), HB.out⟩
set_option maxRecDepth 100000 in
theorem def46_8 (w : World) : Gives 46 8 [65535, 0, 0, 0, 65535, 0, 0, 0, 65535] 0 w := by
  have HN := Aside0.mk (blk_new w (.cells #[.int .i64 65535, .int .i64 0, .int .i64 0, .int .i64 0, .int .i64 65535, .int .i64 0, .int .i64 0, .int .i64 0, .int .i64 65535] 3))
  have HB := Aside0.mk (below_alloc (Below.refl w.heap.size w) (.cells #[.int .i64 65535, .int .i64 0, .int .i64 0, .int .i64 0, .int .i64 65535, .int .i64 0, .int .i64 0, .int .i64 0, .int .i64 65535] 3))
  unfold Gives
  go_enter Try.func46, Try.ntmps46
  go_wp2
  refine bodyPost_ret (v := .tuple #[.slice (some ⟨w.heap.size, 0, none⟩) 9 9, .int .i64 0]) (by simp [results, Try.results46, go_sem]) rfl ⟨_, rfl, ints_blk HN.out (by decide), HB.out⟩
set_option maxRecDepth 100000 in
theorem def46_9 (w : World) : Gives 46 9 [13933, 46871, 4731] 0 w := by
  have HN := Aside0.mk (blk_new w (.cells #[.int .i64 13933, .int .i64 46871, .int .i64 4731] 3))
  have HB := Aside0.mk (below_alloc (Below.refl w.heap.size w) (.cells #[.int .i64 13933, .int .i64 46871, .int .i64 4731] 3))
  unfold Gives
  go_enter Try.func46, Try.ntmps46
  go_wp2
  refine bodyPost_ret (v := .tuple #[.slice (some ⟨w.heap.size, 0, none⟩) 3 3, .int .i64 0]) (by simp [results, Try.results46, go_sem]) rfl ⟨_, rfl, ints_blk HN.out (by decide), HB.out⟩
set_option maxRecDepth 100000 in
theorem def46_10 (w : World) : Gives 46 10 [] 0 w := by
  have HB := Aside0.mk (Below.refl w.heap.size w)
  unfold Gives
  go_enter Try.func46, Try.ntmps46
  go_wp2
  refine bodyPost_ret (v := .tuple #[.slice none 0 0, .int .i64 0]) (by simp [results, Try.results46, go_sem]) rfl ⟨none, rfl, ints_none _, HB.out⟩
set_option maxRecDepth 100000 in
theorem def46_11 (w : World) : Gives 46 11 [0, 0] 0 w := by
  have HN := Aside0.mk (blk_new w (.cells #[.int .i64 0, .int .i64 0] 3))
  have HB := Aside0.mk (below_alloc (Below.refl w.heap.size w) (.cells #[.int .i64 0, .int .i64 0] 3))
  unfold Gives
  go_enter Try.func46, Try.ntmps46
  go_wp2
  refine bodyPost_ret (v := .tuple #[.slice (some ⟨w.heap.size, 0, none⟩) 2 2, .int .i64 0]) (by simp [results, Try.results46, go_sem]) rfl ⟨_, rfl, ints_blk HN.out (by decide), HB.out⟩
set_option maxRecDepth 100000 in
theorem def47_1 (w : World) : Gives 47 1 [] 0 w := by
  have HB := Aside0.mk (Below.refl w.heap.size w)
  unfold Gives
  go_enter Try.func47, Try.ntmps47
  go_wp2
  refine bodyPost_ret (v := .tuple #[.slice none 0 0, .int .i64 0]) (by simp [results, Try.results47, go_sem]) rfl ⟨none, rfl, ints_none _, HB.out⟩
set_option maxRecDepth 100000 in
theorem def47_2 (w : World) : Gives 47 2 [0, 65535, 16, 0, 65535] 0 w := by
  have HN := Aside0.mk (blk_new w (.cells #[.int .i64 0, .int .i64 65535, .int .i64 16, .int .i64 0, .int .i64 65535] 3))
  have HB := Aside0.mk (below_alloc (Below.refl w.heap.size w) (.cells #[.int .i64 0, .int .i64 65535, .int .i64 16, .int .i64 0, .int .i64 65535] 3))
  unfold Gives
  go_enter Try.func47, Try.ntmps47
  go_wp2
  refine bodyPost_ret (v := .tuple #[.slice (some ⟨w.heap.size, 0, none⟩) 5 5, .int .i64 0]) (by simp [results, Try.results47, go_sem]) rfl ⟨_, rfl, ints_blk HN.out (by decide), HB.out⟩
set_option maxRecDepth 100000 in
theorem def47_3 (w : World) : Gives 47 3 [0, 0, 65535, 65535] 0 w := by
  have HN := Aside0.mk (blk_new w (.cells #[.int .i64 0, .int .i64 0, .int .i64 65535, .int .i64 65535] 3))
  have HB := Aside0.mk (below_alloc (Below.refl w.heap.size w) (.cells #[.int .i64 0, .int .i64 0, .int .i64 65535, .int .i64 65535] 3))
  unfold Gives
  go_enter Try.func47, Try.ntmps47
  go_wp2
  refine bodyPost_ret (v := .tuple #[.slice (some ⟨w.heap.size, 0, none⟩) 4 4, .int .i64 0]) (by simp [results, Try.results47, go_sem]) rfl ⟨_, rfl, ints_blk HN.out (by decide), HB.out⟩
set_option maxRecDepth 100000 in
theorem def47_4 (w : World) : Gives 47 4 [0, 0] 0 w := by
  have HN := Aside0.mk (blk_new w (.cells #[.int .i64 0, .int .i64 0] 3))
  have HB := Aside0.mk (below_alloc (Below.refl w.heap.size w) (.cells #[.int .i64 0, .int .i64 0] 3))
  unfold Gives
  go_enter Try.func47, Try.ntmps47
  go_wp2
  refine bodyPost_ret (v := .tuple #[.slice (some ⟨w.heap.size, 0, none⟩) 2 2, .int .i64 0]) (by simp [results, Try.results47, go_sem]) rfl ⟨_, rfl, ints_blk HN.out (by decide), HB.out⟩
set_option maxRecDepth 100000 in
theorem def47_5 (w : World) : Gives 47 5 [0, 0, 0] 0 w := by
  have HN := Aside0.mk (blk_new w (.cells #[.int .i64 0, .int .i64 0, .int .i64 0] 3))
  have HB := Aside0.mk (below_alloc (Below.refl w.heap.size w) (.cells #[.int .i64 0, .int .i64 0, .int .i64 0] 3))
  unfold Gives
  go_enter Try.func47, Try.ntmps47
  go_wp2
  refine bodyPost_ret (v := .tuple #[.slice (some ⟨w.heap.size, 0, none⟩) 3 3, .int .i64 0]) (by simp [results, Try.results47, go_sem]) rfl ⟨_, rfl, ints_blk HN.out (by decide), HB.out⟩
set_option maxRecDepth 100000 in
theorem def47_6 (w : World) : Gives 47 6 [32768] 0 w := by
  have HN := Aside0.mk (blk_new w (.cells #[.int .i64 32768] 3))
  have HB := Aside0.mk (below_alloc (Below.refl w.heap.size w) (.cells #[.int .i64 32768] 3))
  unfold Gives
  go_enter Try.func47, Try.ntmps47
  go_wp2
  refine bodyPost_ret (v := .tuple #[.slice (some ⟨w.heap.size, 0, none⟩) 1 1, .int .i64 0]) (by simp [results, Try.results47, go_sem]) rfl ⟨_, rfl, ints_blk HN.out (by decide), HB.out⟩
set_option maxRecDepth 100000 in
theorem def47_7 (w : World) : Gives 47 7 [4] 0 w := by
  have HN := Aside0.mk (blk_new w (.cells #[.int .i64 4] 3))
  have HB := Aside0.mk (below_alloc (Below.refl w.heap.size w) (.cells #[.int .i64 4] 3))
  unfold Gives
  go_enter Try.func47, Try.ntmps47
  go_wp2
  refine bodyPost_ret (v := .tuple #[.slice (some ⟨w.heap.size, 0, none⟩) 1 1, .int .i64 0]) (by simp [results, Try.results47, go_sem]) rfl ⟨_, rfl, ints_blk HN.out (by decide), HB.out⟩
set_option maxRecDepth 100000 in
theorem def47_8 (w : World) : Gives 47 8 [65535, 0, 0, 0, 65535, 0, 0, 0, 65535] 0 w := by
  have HN := Aside0.mk (blk_new w (.cells #[.int .i64 65535, .int .i64 0, .int .i64 0, .int .i64 0, .int .i64 65535, .int .i64 0, .int .i64 0, .int .i64 0, .int .i64 65535] 3))
  have HB := Aside0.mk (below_alloc (Below.refl w.heap.size w) (.cells #[.int .i64 65535, .int .i64 0, .int .i64 0, .int .i64 0, .int .i64 65535, .int .i64 0, .int .i64 0, .int .i64 0, .int .i64 65535] 3))
  unfold Gives
  go_enter Try.func47, Try.ntmps47
  go_wp2
  refine bodyPost_ret (v := .tuple #[.slice (some ⟨w.heap.size, 0, none⟩) 9 9, .int .i64 0]) (by simp [results, Try.results47, go_sem]) rfl ⟨_, rfl, ints_blk HN.out (by decide), HB.out⟩
set_option maxRecDepth 100000 in
theorem def47_9 (w : World) : Gives 47 9 [13933, 46871, 4731] 0 w := by
  have HN := Aside0.mk (blk_new w (.cells #[.int .i64 13933, .int .i64 46871, .int .i64 4731] 3))
  have HB := Aside0.mk (below_alloc (Below.refl w.heap.size w) (.cells #[.int .i64 13933, .int .i64 46871, .int .i64 4731] 3))
  unfold Gives
  go_enter Try.func47, Try.ntmps47
  go_wp2
  refine bodyPost_ret (v := .tuple #[.slice (some ⟨w.heap.size, 0, none⟩) 3 3, .int .i64 0]) (by simp [results, Try.results47, go_sem]) rfl ⟨_, rfl, ints_blk HN.out (by decide), HB.out⟩
set_option maxRecDepth 100000 in
theorem def47_10 (w : World) : Gives 47 10 [] 0 w := by
  have HB := Aside0.mk (Below.refl w.heap.size w)
  unfold Gives
  go_enter Try.func47, Try.ntmps47
  go_wp2
  refine bodyPost_ret (v := .tuple #[.slice none 0 0, .int .i64 0]) (by simp [results, Try.results47, go_sem]) rfl ⟨none, rfl, ints_none _, HB.out⟩
set_option maxRecDepth 100000 in
theorem def47_11 (w : World) : Gives 47 11 [0, 0] 0 w := by
  have HN := Aside0.mk (blk_new w (.cells #[.int .i64 0, .int .i64 0] 3))
  have HB := Aside0.mk (below_alloc (Below.refl w.heap.size w) (.cells #[.int .i64 0, .int .i64 0] 3))
  unfold Gives
  go_enter Try.func47, Try.ntmps47
  go_wp2
  refine bodyPost_ret (v := .tuple #[.slice (some ⟨w.heap.size, 0, none⟩) 2 2, .int .i64 0]) (by simp [results, Try.results47, go_sem]) rfl ⟨_, rfl, ints_blk HN.out (by decide), HB.out⟩
theorem def46_out (k : Int) (w : World) (q1 : (k == 1) = false) (q2 : (k == 2) = false) (q3 : (k == 3) = false) (q4 : (k == 4) = false) (q5 : (k == 5) = false) (q6 : (k == 6) = false) (q7 : (k == 7) = false) (q8 : (k == 8) = false) (q9 : (k == 9) = false) (q10 : (k == 10) = false) (q11 : (k == 11) = false) : Gives 46 k [] 8 w := by
  have HB := Aside0.mk (Below.refl w.heap.size w)
  unfold Gives
  go_enter Try.func46, Try.ntmps46
  go_wp2
  refine bodyPost_ret (v := .tuple #[.slice none 0 0, .int .i64 8]) (by simp [results, Try.results46, go_sem]) rfl ⟨none, rfl, ints_none _, HB.out⟩
theorem def47_lo (k : Int) (w : World) (q : decide (k < 1) = true) : Gives 47 k [] 8 w := by
  have HB := Aside0.mk (Below.refl w.heap.size w)
  unfold Gives
  go_enter Try.func47, Try.ntmps47
  go_wp2
  refine bodyPost_ret (v := .tuple #[.slice none 0 0, .int .i64 8]) (by simp [results, Try.results47, go_sem]) rfl ⟨none, rfl, ints_none _, HB.out⟩
theorem def47_hi (k : Int) (w : World) (q : decide (k < 1) = false) (q2 : decide (11 < k) = true) : Gives 47 k [] 8 w := by
  have HB := Aside0.mk (Below.refl w.heap.size w)
  unfold Gives
  go_enter Try.func47, Try.ntmps47
  go_wp2
  refine bodyPost_ret (v := .tuple #[.slice none 0 0, .int .i64 8]) (by simp [results, Try.results47, go_sem]) rfl ⟨none, rfl, ints_none _, HB.out⟩
theorem def_both (k : Int) : ∃ m e0, m.length ≤ 1000 ∧ (∀ w, Gives 46 k m e0 w) ∧ ∀ w, Gives 47 k m e0 w := by
  by_cases h0 : k < 1
  · exact ⟨[], 8, by decide, fun w => def46_out k w (by simpa using (by omega : k ≠ 1)) (by simpa using (by omega : k ≠ 2)) (by simpa using (by omega : k ≠ 3)) (by simpa using (by omega : k ≠ 4)) (by simpa using (by omega : k ≠ 5)) (by simpa using (by omega : k ≠ 6)) (by simpa using (by omega : k ≠ 7)) (by simpa using (by omega : k ≠ 8)) (by simpa using (by omega : k ≠ 9)) (by simpa using (by omega : k ≠ 10)) (by simpa using (by omega : k ≠ 11)), fun w => def47_lo k w (decide_eq_true h0)⟩
  by_cases h1 : 11 < k
  · exact ⟨[], 8, by decide, fun w => def46_out k w (by simpa using (by omega : k ≠ 1)) (by simpa using (by omega : k ≠ 2)) (by simpa using (by omega : k ≠ 3)) (by simpa using (by omega : k ≠ 4)) (by simpa using (by omega : k ≠ 5)) (by simpa using (by omega : k ≠ 6)) (by simpa using (by omega : k ≠ 7)) (by simpa using (by omega : k ≠ 8)) (by simpa using (by omega : k ≠ 9)) (by simpa using (by omega : k ≠ 10)) (by simpa using (by omega : k ≠ 11)), fun w => def47_hi k w (decide_eq_false h0) (decide_eq_true h1)⟩
  have hk : k = 1 ∨ k = 2 ∨ k = 3 ∨ k = 4 ∨ k = 5 ∨ k = 6 ∨ k = 7 ∨ k = 8 ∨ k = 9 ∨ k = 10 ∨ k = 11 := by omega
  rcases hk with rfl | rfl | rfl | rfl | rfl | rfl | rfl | rfl | rfl | rfl | rfl
  · exact ⟨_, 0, by decide, def46_1, def47_1⟩
  · exact ⟨_, 0, by decide, def46_2, def47_2⟩
  · exact ⟨_, 0, by decide, def46_3, def47_3⟩
  · exact ⟨_, 0, by decide, def46_4, def47_4⟩
  · exact ⟨_, 0, by decide, def46_5, def47_5⟩
  · exact ⟨_, 0, by decide, def46_6, def47_6⟩
  · exact ⟨_, 0, by decide, def46_7, def47_7⟩
  · exact ⟨_, 0, by decide, def46_8, def47_8⟩
  · exact ⟨_, 0, by decide, def46_9, def47_9⟩
  · exact ⟨_, 0, by decide, def46_10, def47_10⟩
  · exact ⟨_, 0, by decide, def46_11, def47_11⟩
set_option maxRecDepth 100000 in
set_option maxHeartbeats 8000000 in
theorem checks_walk (k e0 cv : Int) (m : List Int) (P : Option Addr) (n cp : Nat) (S : Option Addr) (ns cs : Nat) (w : World) (hm : m.length ≤ 1000)
    (HD : Aside0 (∀ w, Gives 46 k m e0 w)) (HE : Aside0 (∀ w, Gives 47 k m e0 w))
    (HC : Aside0 (∀ w1, Below w.heap.size w w1 → Calls Try.prog 45 #[.int .i64 k, .slice P n cp, .slice S ns cs] w1 fun e w' => e = .returned (.int .i64 cv) ∧ Below w1.heap.size w1 w'))
    (HF : Aside0 (∀ w1, Below w.heap.size w w1 → Calls Try.prog 48 #[.int .i64 k, .slice P n cp, .slice S ns cs] w1 fun e w' => e = .returned (.int .i64 cv) ∧ Below w1.heap.size w1 w')) :
    Calls Try.prog 18 #[.int .i64 k, .slice P n cp, .slice S ns cs] w fun e w' => e = .returned (.bool true) ∧ Below w.heap.size w w' := by
  go_enter Try.func18, Try.ntmps18
  go_wp2_with fail
  refine (HD.out _).mono ?_
  rintro e w1 ⟨A, rfl, hA, HB⟩
  dsimp only
  go_wp2_with fail
  refine (HE.out _).mono ?_
  rintro e w2 ⟨B, rfl, hB, hb⟩
  replace HB := step HB hb
  replace hA := Kd.C_below hA hb
  clear hb
  dsimp only
  go_wp2_with fail
  refine (awake_any _).mono ?_
  rintro e w3 ⟨rfl, hb⟩
  replace HB := step HB hb
  replace hA := Kd.C_below hA hb
  replace hB := Kd.C_below hB hb
  clear hb
  dsimp only
  go_wp2_with fail
  refine (HC.out _ HB).mono ?_
  rintro e w4 ⟨rfl, hb⟩
  replace HB := step HB hb
  replace hA := Kd.C_below hA hb
  replace hB := Kd.C_below hB hb
  clear hb
  dsimp only
  go_wp2_with fail
  refine (HF.out _ HB).mono ?_
  rintro e w5 ⟨rfl, hb⟩
  have GB := Aside0.mk (step HB hb)
  have GX := Aside0.mk (Kd.C_below hA hb)
  have GY := Aside0.mk (Kd.C_below hB hb)
  clear hb HB hA hB HC HF HD HE
  dsimp only
  go_wp2
  go_loopw [49] (fun a wr => ∃ (x : Int), a = .int .i64 x ∧ 0 ≤ x ∧ x ≤ m.length ∧ Aside0 (Below w5.heap.size w5 wr)) (fun a _ => m.length - (intOf a).toNat)
  case atStart => exact ⟨0, rfl, by omega, by omega, ⟨Below.refl _ _⟩⟩
  case round =>
    obtain ⟨x, rfl, b0, hi, HB⟩ := hrel
    by_cases b1 : x < (m.length : Int)
    · obtain ⟨ad, ea, x0⟩ := Kd.at_int GX.out x b0 b1
      obtain ⟨bd, eb, y0⟩ := Kd.at_int GY.out x b0 b1
      replace x0 := kept HB.out x0
      replace y0 := kept HB.out y0
      have e1 := wi (x + 1) (by omega) (by omega)
      have q : (rd m x == rd m x) = true := by simp
      subst ea
      subst eb
      go_wp2
      go_region
      go_wp2
      go_roundw
      case rel => exact ⟨x + 1, rfl, by omega, by omega, ⟨by with_reducible repeat (first | exact HB.out | refine below_drew1 ?_ | refine pw_below_drewN ?_ _)⟩⟩
      case measure => simp [intOf]; omega
    · clear hi
      go_wp2
      go_ret
      exact ⟨rfl, step GB.out HB.out⟩
theorem checks_any (k : Int) (A1 : Option Addr) (cap1 : Nat) (l1 : List Int) (A2 : Option Addr) (cap2 : Nat) (l2 : List S74) (W : World) (hr1 : Ints W A1 l1) (hc1 : l1.length ≤ cap1) (hr2 : Kd.C k74 W A2 l2.length l2) (hc2 : l2.length ≤ cap2) :
    Calls Try.prog 18 #[.int .i64 k, .slice A1 l1.length cap1, .slice A2 l2.length cap2] W fun e w' => e = .returned (.bool true) ∧ Below W.heap.size W w' := by
  obtain ⟨m, e0, hm, hD, hE⟩ := def_both k
  exact checks_walk k e0 (checkV k l1 l2) m A1 l1.length cap1 A2 l2.length cap2 W hm ⟨hD⟩ ⟨hE⟩ ⟨fun w1 hb => check_any k A1 cap1 l1 A2 cap2 l2 w1 (Kd.C_below hr1 hb) hc1 (Kd.C_below hr2 hb) hc2⟩ ⟨fun w1 hb => rcheck_any k A1 cap1 l1 A2 cap2 l2 w1 (Kd.C_below hr1 hb) (Kd.C_below hr2 hb)⟩
end Go.Proofs.Ytmgpmpiondciiaa.Adj
