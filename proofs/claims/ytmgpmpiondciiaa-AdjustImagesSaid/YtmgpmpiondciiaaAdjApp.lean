/- adjust.apply kind by kind (but the curve), as contracts. No condition but the bounds of each theorem. -/
import Derived.Test.YtmgpmpiondciiaaAdjChan
import Derived.Test.YtmgpmpiondciiaaAdjEach
import Derived.Test.YtmgpmpiondciiaaAdjHue
import Derived.Test.YtmgpmpiondciiaaAdjMap
namespace Go.Proofs.Ytmgpmpiondciiaa.Adj
open Go.RowKit Go.Proofs.Ytmgpmpiondciiaa.PAdjustImages Go.Proofs.YtmgpmpiondciiaaW.PrintWords Go.Proofs.YtmgpmpiondciiaaW.PrintMore Go.Proofs.Ytmgpmpiondciiaa.Plain

/-! ### A list of whole numbers in memory, and what apply lays into memory first -/
abbrev Ints (w : World) (P : Option Addr) (l : List Int) : Prop := Kd.C (Kd.int .i64) w P l.length l
theorem ints_cell {w : World} {P : Option Addr} {l : List Int} (h : Ints w P l) (hn : 0 < l.length) : ∃ ad, P = some ad ∧ w.cell? ad = some (.int .i64 (rd l 0)) ∧ ∀ i : Nat, 0 < i → i < l.length → w.cell? ⟨ad.block, ad.off + i, none⟩ = some (.int .i64 (rd l i)) := by
  obtain ⟨ad, e, h0⟩ := Kd.at_int h 0 (by omega) (by omega)
  refine ⟨ad, e, by simpa [Addr.add] using h0, fun i hp hi => ?_⟩
  obtain ⟨ad', e', h1⟩ := Kd.at_int h (i : Int) (by omega) (by omega)
  rw [e] at e'
  obtain rfl := Option.some.inj e'
  have hn : i ≠ 0 := by omega
  simpa [Addr.add, hn] using h1
theorem Ints.below {w w1 : World} {P : Option Addr} {l : List Int} (h : Ints w P l) (hb : Below w.heap.size w w1) : Ints w1 P l := Kd.C_below h hb
theorem three (w W : World) (a b c : Obj) (h : ((w.alloc a).alloc b).alloc c = W) : W.heap[w.heap.size]? = some a ∧ W.heap[w.heap.size + 1]? = some b ∧ W.heap[w.heap.size + 1 + 1]? = some c ∧ Below w.heap.size w W ∧ W.heap.size = w.heap.size + 3 := by
  subst h
  refine ⟨blk_alloc (blk_alloc (blk_new w a) b) c, blk_alloc ?_ c, ?_, below_alloc (below_alloc (below_alloc (Below.refl _ w) a) b) c, by simp⟩
  · have := blk_new (w.alloc a) b
    simpa using this
  · have := blk_new ((w.alloc a).alloc b) c
    simpa using this

set_option maxRecDepth 100000 in
set_option maxHeartbeats 3200000 in
theorem apply_0 (k : Int) (P : Option Addr) (n cap : Nat) (sv : Value) (R G B : Int) (w : World) :
    Calls Try.prog 55 #[.int .i64 k, .slice P n cap, sv, .agg #[.int .i64 R, .int .i64 G, .int .i64 B, .int .i64 0]] w fun e w' => e = .returned (.agg #[.int .i64 0, .int .i64 0, .int .i64 0, .int .i64 0]) ∧ Below w.heap.size w w' := by
  have HB := Aside0.mk (Below.refl w.heap.size w)
  go_enter Try.func55, Try.ntmps55
  go_wp2_with fail
  refine bodyPost_ret (v := .agg #[.int .i64 0, .int .i64 0, .int .i64 0, .int .i64 0]) (by simp [results, Try.results55, go_sem]) rfl ⟨rfl, ?_⟩
  exact below_alloc (below_alloc (below_alloc HB.out _) _) _

set_option maxRecDepth 100000 in
set_option maxHeartbeats 3200000 in
theorem apply_1 (P : Option Addr) (n cap : Nat) (sv : Value) (R G B A : Int) (w : World) (V : Vld R G B A) (ha : A ≠ 0) :
    Calls Try.prog 55 #[.int .i64 1, .slice P n cap, sv, .agg #[.int .i64 R, .int .i64 G, .int .i64 B, .int .i64 A]] w fun e w' => e = .returned (.agg #[.int .i64 (65535 - R), .int .i64 (65535 - G), .int .i64 (65535 - B), .int .i64 A]) ∧ Below w.heap.size w w' := by
  have HV := Aside0.mk V
  clear V
  go_enter Try.func55, Try.ntmps55
  go_wp2_with fail
  generalize hW : ((w.alloc (.cells #[.slice P n cap] 32)).alloc (.cells #[.int .i64 R, .int .i64 G, .int .i64 B, .int .i64 A] 45)).alloc (.cells #[.int .i64 0, .int .i64 0, .int .i64 0, .int .i64 0] 45) = W
  obtain ⟨X0, X1, X2, XB, XS⟩ := three _ _ _ _ _ hW
  clear hW
  refine (each_76 (fun c => 65535 - c) R G B A W HV.out.r0 HV.out.r1 HV.out.g0 HV.out.g1 HV.out.b0 HV.out.b1 (fun c w1 c0 c1 hb => (invertQ c w1 c0 c1).below)).mono ?_
  rintro e w' ⟨rfl, hb⟩
  have BK := blk_below X2 hb
  have hz0 : w'.cell? ⟨w.heap.size + 1 + 1, 0, none⟩ = some (.int .i64 0) := (blk_cell BK 0).trans rfl
  have hz1 : w'.cell? ⟨w.heap.size + 1 + 1, 1, none⟩ = some (.int .i64 0) := (blk_cell BK 1).trans rfl
  have hz2 : w'.cell? ⟨w.heap.size + 1 + 1, 2, none⟩ = some (.int .i64 0) := (blk_cell BK 2).trans rfl
  have hz3 : w'.cell? ⟨w.heap.size + 1 + 1, 3, none⟩ = some (.int .i64 0) := (blk_cell BK 3).trans rfl
  have hf0 := blk_frozen BK 0
  have hf1 := blk_frozen BK 1
  have hf2 := blk_frozen BK 2
  have hf3 := blk_frozen BK 3
  have HB := Aside0.mk (step XB hb)
  clear X0 X1 X2 XB hb BK
  dsimp only
  go_wp2
  refine bodyPost_ret (v := .agg #[.int .i64 (65535 - R), .int .i64 (65535 - G), .int .i64 (65535 - B), .int .i64 A]) (by simp [results, Try.results55, go_sem, hz0, hz1, hz2, hz3]) rfl ⟨rfl, ?_⟩
  repeat (first | exact HB.out | refine below_set ?_ (by omega))

set_option maxRecDepth 100000 in
set_option maxHeartbeats 3200000 in
theorem apply_2 (ad : Addr) (cap : Nat) (sv : Value) (p0 p1 p2 p3 p4 : Int) (R G B A : Int) (w : World) (V : Vld R G B A) (ha : A ≠ 0) (hp0 : w.cell? ad = some (.int .i64 p0)) (hp1 : w.cell? ⟨ad.block, ad.off + 1, none⟩ = some (.int .i64 p1)) (hp2 : w.cell? ⟨ad.block, ad.off + 2, none⟩ = some (.int .i64 p2)) (hp3 : w.cell? ⟨ad.block, ad.off + 3, none⟩ = some (.int .i64 p3)) (hp4 : w.cell? ⟨ad.block, ad.off + 4, none⟩ = some (.int .i64 p4)) (b0 : 0 ≤ p0) (b1 : p0 < p1) (b2 : p1 ≤ 65535) (g0 : 1 ≤ p2) (g1 : p2 ≤ 256) (l0 : 0 ≤ p3) (l1 : p3 ≤ 65535) (h0 : 0 ≤ p4) (h1 : p4 ≤ 65535) :
    Calls Try.prog 55 #[.int .i64 2, .slice (some ad) 5 cap, sv, .agg #[.int .i64 R, .int .i64 G, .int .i64 B, .int .i64 A]] w fun e w' => e = .returned (.agg #[.int .i64 (levelsV p0 p1 p2 p3 p4 R), .int .i64 (levelsV p0 p1 p2 p3 p4 G), .int .i64 (levelsV p0 p1 p2 p3 p4 B), .int .i64 A]) ∧ Below w.heap.size w w' := by
  have HV := Aside0.mk V
  clear V
  have Hp0 := Aside0.mk hp0
  have Hp1 := Aside0.mk hp1
  have Hp2 := Aside0.mk hp2
  have Hp3 := Aside0.mk hp3
  have Hp4 := Aside0.mk hp4
  clear hp0 hp1 hp2 hp3 hp4
  go_enter Try.func55, Try.ntmps55
  go_wp2_with fail
  generalize hW : ((w.alloc (.cells #[.slice (some ad) 5 cap] 32)).alloc (.cells #[.int .i64 R, .int .i64 G, .int .i64 B, .int .i64 A] 45)).alloc (.cells #[.int .i64 0, .int .i64 0, .int .i64 0, .int .i64 0] 45) = W
  obtain ⟨X0, X1, X2, XB, XS⟩ := three _ _ _ _ _ hW
  clear hW
  refine (each_77 (fun c => levelsV p0 p1 p2 p3 p4 c) ⟨w.heap.size, 0, none⟩ R G B A W HV.out.r0 HV.out.r1 HV.out.g0 HV.out.g1 HV.out.b0 HV.out.b1 (fun c w1 c0 c1 hb => (levelsQ' _ ad cap p0 p1 p2 p3 p4 c w1 ((blk_cell (blk_below X0 hb) 0).trans rfl) (kept hb (kept XB Hp0.out)) (kept hb (kept XB Hp1.out)) (kept hb (kept XB Hp2.out)) (kept hb (kept XB Hp3.out)) (kept hb (kept XB Hp4.out)) c0 c1 b0 b1 b2 g0 g1 l0 l1 h0 h1).below)).mono ?_
  rintro e w' ⟨rfl, hb⟩
  have BK := blk_below X2 hb
  have hz0 : w'.cell? ⟨w.heap.size + 1 + 1, 0, none⟩ = some (.int .i64 0) := (blk_cell BK 0).trans rfl
  have hz1 : w'.cell? ⟨w.heap.size + 1 + 1, 1, none⟩ = some (.int .i64 0) := (blk_cell BK 1).trans rfl
  have hz2 : w'.cell? ⟨w.heap.size + 1 + 1, 2, none⟩ = some (.int .i64 0) := (blk_cell BK 2).trans rfl
  have hz3 : w'.cell? ⟨w.heap.size + 1 + 1, 3, none⟩ = some (.int .i64 0) := (blk_cell BK 3).trans rfl
  have hf0 := blk_frozen BK 0
  have hf1 := blk_frozen BK 1
  have hf2 := blk_frozen BK 2
  have hf3 := blk_frozen BK 3
  have HB := Aside0.mk (step XB hb)
  clear X0 X1 X2 XB hb BK
  dsimp only
  go_wp2
  refine bodyPost_ret (v := .agg #[.int .i64 (levelsV p0 p1 p2 p3 p4 R), .int .i64 (levelsV p0 p1 p2 p3 p4 G), .int .i64 (levelsV p0 p1 p2 p3 p4 B), .int .i64 A]) (by simp [results, Try.results55, go_sem, hz0, hz1, hz2, hz3]) rfl ⟨rfl, ?_⟩
  repeat (first | exact HB.out | refine below_set ?_ (by omega))

set_option maxRecDepth 100000 in
set_option maxHeartbeats 3200000 in
theorem apply_4 (ad : Addr) (cap : Nat) (sv : Value) (p0 p1 : Int) (R G B A : Int) (w : World) (V : Vld R G B A) (ha : A ≠ 0) (hp0 : w.cell? ad = some (.int .i64 p0)) (hp1 : w.cell? ⟨ad.block, ad.off + 1, none⟩ = some (.int .i64 p1)) (b0 : -65535 ≤ p0) (b1 : p0 ≤ 65535) (d0 : -65535 ≤ p1) (d1 : p1 ≤ 65535) :
    Calls Try.prog 55 #[.int .i64 4, .slice (some ad) 2 cap, sv, .agg #[.int .i64 R, .int .i64 G, .int .i64 B, .int .i64 A]] w fun e w' => e = .returned (.agg #[.int .i64 (brightV p0 p1 R), .int .i64 (brightV p0 p1 G), .int .i64 (brightV p0 p1 B), .int .i64 A]) ∧ Below w.heap.size w w' := by
  have HV := Aside0.mk V
  clear V
  have Hp0 := Aside0.mk hp0
  have Hp1 := Aside0.mk hp1
  clear hp0 hp1
  go_enter Try.func55, Try.ntmps55
  go_wp2_with fail
  generalize hW : ((w.alloc (.cells #[.slice (some ad) 2 cap] 32)).alloc (.cells #[.int .i64 R, .int .i64 G, .int .i64 B, .int .i64 A] 45)).alloc (.cells #[.int .i64 0, .int .i64 0, .int .i64 0, .int .i64 0] 45) = W
  obtain ⟨X0, X1, X2, XB, XS⟩ := three _ _ _ _ _ hW
  clear hW
  refine (each_80 (fun c => brightV p0 p1 c) ⟨w.heap.size, 0, none⟩ R G B A W HV.out.r0 HV.out.r1 HV.out.g0 HV.out.g1 HV.out.b0 HV.out.b1 (fun c w1 c0 c1 hb => (brightQ _ ad cap p0 p1 c w1 ((blk_cell (blk_below X0 hb) 0).trans rfl) (kept hb (kept XB Hp0.out)) (kept hb (kept XB Hp1.out)) c0 c1 b0 b1 d0 d1).below)).mono ?_
  rintro e w' ⟨rfl, hb⟩
  have BK := blk_below X2 hb
  have hz0 : w'.cell? ⟨w.heap.size + 1 + 1, 0, none⟩ = some (.int .i64 0) := (blk_cell BK 0).trans rfl
  have hz1 : w'.cell? ⟨w.heap.size + 1 + 1, 1, none⟩ = some (.int .i64 0) := (blk_cell BK 1).trans rfl
  have hz2 : w'.cell? ⟨w.heap.size + 1 + 1, 2, none⟩ = some (.int .i64 0) := (blk_cell BK 2).trans rfl
  have hz3 : w'.cell? ⟨w.heap.size + 1 + 1, 3, none⟩ = some (.int .i64 0) := (blk_cell BK 3).trans rfl
  have hf0 := blk_frozen BK 0
  have hf1 := blk_frozen BK 1
  have hf2 := blk_frozen BK 2
  have hf3 := blk_frozen BK 3
  have HB := Aside0.mk (step XB hb)
  clear X0 X1 X2 XB hb BK
  dsimp only
  go_wp2
  refine bodyPost_ret (v := .agg #[.int .i64 (brightV p0 p1 R), .int .i64 (brightV p0 p1 G), .int .i64 (brightV p0 p1 B), .int .i64 A]) (by simp [results, Try.results55, go_sem, hz0, hz1, hz2, hz3]) rfl ⟨rfl, ?_⟩
  repeat (first | exact HB.out | refine below_set ?_ (by omega))

set_option maxRecDepth 100000 in
set_option maxHeartbeats 3200000 in
theorem apply_11 (ad : Addr) (cap : Nat) (sv : Value) (p0 p1 : Int) (R G B A : Int) (w : World) (V : Vld R G B A) (ha : A ≠ 0) (hp0 : w.cell? ad = some (.int .i64 p0)) (hp1 : w.cell? ⟨ad.block, ad.off + 1, none⟩ = some (.int .i64 p1)) (b0 : -128 ≤ p0) (b1 : p0 ≤ 128) (d0 : -65535 ≤ p1) (d1 : p1 ≤ 65535) :
    Calls Try.prog 55 #[.int .i64 11, .slice (some ad) 2 cap, sv, .agg #[.int .i64 R, .int .i64 G, .int .i64 B, .int .i64 A]] w fun e w' => e = .returned (.agg #[.int .i64 (expoV p0 p1 R), .int .i64 (expoV p0 p1 G), .int .i64 (expoV p0 p1 B), .int .i64 A]) ∧ Below w.heap.size w w' := by
  have HV := Aside0.mk V
  clear V
  have Hp0 := Aside0.mk hp0
  have Hp1 := Aside0.mk hp1
  clear hp0 hp1
  go_enter Try.func55, Try.ntmps55
  go_wp2_with fail
  generalize hW : ((w.alloc (.cells #[.slice (some ad) 2 cap] 32)).alloc (.cells #[.int .i64 R, .int .i64 G, .int .i64 B, .int .i64 A] 45)).alloc (.cells #[.int .i64 0, .int .i64 0, .int .i64 0, .int .i64 0] 45) = W
  obtain ⟨X0, X1, X2, XB, XS⟩ := three _ _ _ _ _ hW
  clear hW
  refine (each_87 (fun c => expoV p0 p1 c) ⟨w.heap.size, 0, none⟩ R G B A W HV.out.r0 HV.out.r1 HV.out.g0 HV.out.g1 HV.out.b0 HV.out.b1 (fun c w1 c0 c1 hb => expoB' _ ad cap p0 p1 c w1 ((blk_cell (blk_below X0 hb) 0).trans rfl) (kept hb (kept XB Hp0.out)) (kept hb (kept XB Hp1.out)) c0 c1 b0 b1 d0 d1)).mono ?_
  rintro e w' ⟨rfl, hb⟩
  have BK := blk_below X2 hb
  have hz0 : w'.cell? ⟨w.heap.size + 1 + 1, 0, none⟩ = some (.int .i64 0) := (blk_cell BK 0).trans rfl
  have hz1 : w'.cell? ⟨w.heap.size + 1 + 1, 1, none⟩ = some (.int .i64 0) := (blk_cell BK 1).trans rfl
  have hz2 : w'.cell? ⟨w.heap.size + 1 + 1, 2, none⟩ = some (.int .i64 0) := (blk_cell BK 2).trans rfl
  have hz3 : w'.cell? ⟨w.heap.size + 1 + 1, 3, none⟩ = some (.int .i64 0) := (blk_cell BK 3).trans rfl
  have hf0 := blk_frozen BK 0
  have hf1 := blk_frozen BK 1
  have hf2 := blk_frozen BK 2
  have hf3 := blk_frozen BK 3
  have HB := Aside0.mk (step XB hb)
  clear X0 X1 X2 XB hb BK
  dsimp only
  go_wp2
  refine bodyPost_ret (v := .agg #[.int .i64 (expoV p0 p1 R), .int .i64 (expoV p0 p1 G), .int .i64 (expoV p0 p1 B), .int .i64 A]) (by simp [results, Try.results55, go_sem, hz0, hz1, hz2, hz3]) rfl ⟨rfl, ?_⟩
  repeat (first | exact HB.out | refine below_set ?_ (by omega))

set_option maxRecDepth 100000 in
set_option maxHeartbeats 3200000 in
theorem apply_5 (ad : Addr) (cap : Nat) (sv : Value) (p0 p1 p2 v0 v1 v2 v3 : Int) (R G B A : Int) (w : World) (V : Vld R G B A) (ha : A ≠ 0) (hp0 : w.cell? ad = some (.int .i64 p0)) (hp1 : w.cell? ⟨ad.block, ad.off + 1, none⟩ = some (.int .i64 p1)) (hp2 : w.cell? ⟨ad.block, ad.off + 2, none⟩ = some (.int .i64 p2)) (b0 : -32768 ≤ p0) (b1 : p0 ≤ 32768) (d0 : -65535 ≤ p1) (d1 : p1 ≤ 65535) (l0 : -65535 ≤ p2) (l1 : p2 ≤ 65535) (hq : huePix p0 p1 p2 R G B A = .agg #[.int .i64 v0, .int .i64 v1, .int .i64 v2, .int .i64 v3]) :
    Calls Try.prog 55 #[.int .i64 5, .slice (some ad) 3 cap, sv, .agg #[.int .i64 R, .int .i64 G, .int .i64 B, .int .i64 A]] w fun e w' => e = .returned (.agg #[.int .i64 v0, .int .i64 v1, .int .i64 v2, .int .i64 v3]) ∧ Below w.heap.size w w' := by
  have HV := Aside0.mk V
  clear V
  have Hp0 := Aside0.mk hp0
  have Hp1 := Aside0.mk hp1
  have Hp2 := Aside0.mk hp2
  clear hp0 hp1 hp2
  have HQ := Aside0.mk hq
  clear hq
  go_enter Try.func55, Try.ntmps55
  go_wp2_with fail
  generalize hW : ((w.alloc (.cells #[.slice (some ad) 3 cap] 32)).alloc (.cells #[.int .i64 R, .int .i64 G, .int .i64 B, .int .i64 A] 45)).alloc (.cells #[.int .i64 0, .int .i64 0, .int .i64 0, .int .i64 0] 45) = W
  obtain ⟨X0, X1, X2, XB, XS⟩ := three _ _ _ _ _ hW
  clear hW
  refine (hue_any ad cap p0 p1 p2 R G B A W HV.out (kept XB Hp0.out) (kept XB Hp1.out) (kept XB Hp2.out) b0 b1 d0 d1 l0 l1).mono ?_
  rw [HQ.out]
  rintro e w' ⟨rfl, hb⟩
  have BK := blk_below X2 hb
  have hz0 : w'.cell? ⟨w.heap.size + 1 + 1, 0, none⟩ = some (.int .i64 0) := (blk_cell BK 0).trans rfl
  have hz1 : w'.cell? ⟨w.heap.size + 1 + 1, 1, none⟩ = some (.int .i64 0) := (blk_cell BK 1).trans rfl
  have hz2 : w'.cell? ⟨w.heap.size + 1 + 1, 2, none⟩ = some (.int .i64 0) := (blk_cell BK 2).trans rfl
  have hz3 : w'.cell? ⟨w.heap.size + 1 + 1, 3, none⟩ = some (.int .i64 0) := (blk_cell BK 3).trans rfl
  have hf0 := blk_frozen BK 0
  have hf1 := blk_frozen BK 1
  have hf2 := blk_frozen BK 2
  have hf3 := blk_frozen BK 3
  have HB := Aside0.mk (step XB hb)
  clear X0 X1 X2 XB hb BK
  dsimp only
  go_wp2
  refine bodyPost_ret (v := .agg #[.int .i64 v0, .int .i64 v1, .int .i64 v2, .int .i64 v3]) (by simp [results, Try.results55, go_sem, hz0, hz1, hz2, hz3]) rfl ⟨rfl, ?_⟩
  repeat (first | exact HB.out | refine below_set ?_ (by omega))

set_option maxRecDepth 100000 in
set_option maxHeartbeats 3200000 in
theorem apply_7 (ad : Addr) (cap : Nat) (sv : Value) (p0 : Int) (R G B A : Int) (w : World) (V : Vld R G B A) (ha : A ≠ 0) (hp0 : w.cell? ad = some (.int .i64 p0)) (b0 : 2 ≤ p0) (b1 : p0 ≤ 256) :
    Calls Try.prog 55 #[.int .i64 7, .slice (some ad) 1 cap, sv, .agg #[.int .i64 R, .int .i64 G, .int .i64 B, .int .i64 A]] w fun e w' => e = .returned (.agg #[.int .i64 (postV (p0 - 1) R), .int .i64 (postV (p0 - 1) G), .int .i64 (postV (p0 - 1) B), .int .i64 A]) ∧ Below w.heap.size w w' := by
  have HV := Aside0.mk V
  have e0 := wi (p0 - 1) (by omega) (by omega)
  have hp := fun o1 o2 o3 => kept (below_alloc (below_alloc (below_alloc (Below.refl _ w) o1) o2) o3) hp0
  clear V hp0
  go_enter Try.func55, Try.ntmps55
  go_wp2_with fail
  generalize hW : ((w.alloc (.cells #[.slice (some ad) 1 cap] 32)).alloc (.cells #[.int .i64 R, .int .i64 G, .int .i64 B, .int .i64 A] 45)).alloc (.cells #[.int .i64 0, .int .i64 0, .int .i64 0, .int .i64 0] 45) = W
  obtain ⟨X0, X1, X2, XB, XS⟩ := three _ _ _ _ _ hW
  clear hW hp
  have XN : Aside0 ((W.alloc (.cells #[.int .i64 (p0 - 1)] 3)).heap[w.heap.size + 1 + 1 + 1]? = some (.cells #[.int .i64 (p0 - 1)] 3 (0, 0))) := ⟨by have := blk_new W (.cells #[.int .i64 (p0 - 1)] 3); rwa [XS] at this⟩
  have XC := Aside0.mk (below_alloc (Below.refl _ W) (.cells #[.int .i64 (p0 - 1)] 3))
  refine (each_84 (fun c => postV (p0 - 1) c) ⟨w.heap.size + 1 + 1 + 1, 0, none⟩ R G B A _ HV.out.r0 HV.out.r1 HV.out.g0 HV.out.g1 HV.out.b0 HV.out.b1 (fun c w1 c0 c1 hb => (postQ _ (p0 - 1) c w1 ((blk_cell (blk_below XN.out hb) 0).trans rfl) c0 c1 (by omega) (by omega)).below)).mono ?_
  rintro e w' ⟨rfl, hb⟩
  replace hb := step XC.out hb
  have BK := blk_below X2 hb
  have hz0 : w'.cell? ⟨w.heap.size + 1 + 1, 0, none⟩ = some (.int .i64 0) := (blk_cell BK 0).trans rfl
  have hz1 : w'.cell? ⟨w.heap.size + 1 + 1, 1, none⟩ = some (.int .i64 0) := (blk_cell BK 1).trans rfl
  have hz2 : w'.cell? ⟨w.heap.size + 1 + 1, 2, none⟩ = some (.int .i64 0) := (blk_cell BK 2).trans rfl
  have hz3 : w'.cell? ⟨w.heap.size + 1 + 1, 3, none⟩ = some (.int .i64 0) := (blk_cell BK 3).trans rfl
  have hf0 := blk_frozen BK 0
  have hf1 := blk_frozen BK 1
  have hf2 := blk_frozen BK 2
  have hf3 := blk_frozen BK 3
  have HB := Aside0.mk (step XB hb)
  clear X0 X1 X2 XB XN XC hb BK
  dsimp only
  go_wp2
  refine bodyPost_ret (v := .agg #[.int .i64 (postV (p0 - 1) R), .int .i64 (postV (p0 - 1) G), .int .i64 (postV (p0 - 1) B), .int .i64 A]) (by simp [results, Try.results55, go_sem, hz0, hz1, hz2, hz3]) rfl ⟨rfl, ?_⟩
  repeat (first | exact HB.out | refine below_set ?_ (by omega))

set_option maxRecDepth 100000 in
set_option maxHeartbeats 3200000 in
theorem apply_6t (ad : Addr) (cap : Nat) (sv : Value) (p0 : Int) (R G B A : Int) (w : World) (V : Vld R G B A) (ha : A ≠ 0) (hp0 : w.cell? ad = some (.int .i64 p0)) (hl : p0 ≤ lumaV R G B) :
    Calls Try.prog 55 #[.int .i64 6, .slice (some ad) 1 cap, sv, .agg #[.int .i64 R, .int .i64 G, .int .i64 B, .int .i64 A]] w fun e w' => e = .returned (.agg #[.int .i64 65535, .int .i64 65535, .int .i64 65535, .int .i64 A]) ∧ Below w.heap.size w w' := by
  have HV := Aside0.mk V
  have g0 : decide (p0 ≤ lumaV R G B) = true := decide_eq_true hl
  have HM : Aside0 (∀ w, Calls Try.prog 82 #[.agg #[.int .i64 R, .int .i64 G, .int .i64 B, .int .i64 A]] w fun e w' => e = .returned (.int .i64 (lumaV R G B)) ∧ Below w.heap.size w w') := ⟨fun w => luma_any R G B A w V⟩
  have HP := Aside0.mk hp0
  clear V hl hp0
  go_enter Try.func55, Try.ntmps55
  go_wp2_with fail
  generalize hW : ((w.alloc (.cells #[.slice (some ad) 1 cap] 32)).alloc (.cells #[.int .i64 R, .int .i64 G, .int .i64 B, .int .i64 A] 45)).alloc (.cells #[.int .i64 0, .int .i64 0, .int .i64 0, .int .i64 0] 45) = W
  obtain ⟨X0, X1, X2, XB, XS⟩ := three _ _ _ _ _ hW
  have c0 : W.cell? ⟨w.heap.size + 1, 0, none⟩ = some (.int .i64 R) := (blk_cell X1 0).trans rfl
  have c1 : W.cell? ⟨w.heap.size + 1, 1, none⟩ = some (.int .i64 G) := (blk_cell X1 1).trans rfl
  have c2 : W.cell? ⟨w.heap.size + 1, 2, none⟩ = some (.int .i64 B) := (blk_cell X1 2).trans rfl
  have c3 : W.cell? ⟨w.heap.size + 1, 3, none⟩ = some (.int .i64 A) := (blk_cell X1 3).trans rfl
  have c4 : W.cell? ⟨w.heap.size, 0, none⟩ = some (.slice (some ad) 1 cap) := (blk_cell X0 0).trans rfl
  have c5 : W.cell? ad = some (.int .i64 p0) := kept XB HP.out
  clear hW X0 X1
  go_region_held3 (fun w' => w'.cell? ⟨w.heap.size + 1, 0, none⟩ = some (.int .i64 R) ∧ w'.cell? ⟨w.heap.size + 1, 1, none⟩ = some (.int .i64 G) ∧ w'.cell? ⟨w.heap.size + 1, 2, none⟩ = some (.int .i64 B) ∧ w'.cell? ⟨w.heap.size + 1, 3, none⟩ = some (.int .i64 A) ∧ w'.cell? ⟨w.heap.size, 0, none⟩ = some (.slice (some ad) 1 cap) ∧ w'.cell? ad = some (.int .i64 p0))
    (first | go_keep | exact ⟨kept hb (by assumption), kept hb (by assumption), kept hb (by assumption), kept hb (by assumption), kept hb (by assumption), kept hb (by assumption)⟩ | (go_split_ands; exact ⟨kept hb (by assumption), kept hb (by assumption), kept hb (by assumption), kept hb (by assumption), kept hb (by assumption), kept hb (by assumption)⟩))
    ((go_at_call 82; refine (HM.out _).mono ?_; rintro e w' ⟨rfl, hb⟩; have s0 : w'.cell? ⟨w.heap.size + 1, 0, none⟩ = some (.int .i64 R) := kept hb (by first | (simp only [World.cell?_drewN]; exact c0) | exact c0); have s1 : w'.cell? ⟨w.heap.size + 1, 1, none⟩ = some (.int .i64 G) := kept hb (by first | (simp only [World.cell?_drewN]; exact c1) | exact c1); have s2 : w'.cell? ⟨w.heap.size + 1, 2, none⟩ = some (.int .i64 B) := kept hb (by first | (simp only [World.cell?_drewN]; exact c2) | exact c2); have s3 : w'.cell? ⟨w.heap.size + 1, 3, none⟩ = some (.int .i64 A) := kept hb (by first | (simp only [World.cell?_drewN]; exact c3) | exact c3); have s4 : w'.cell? ⟨w.heap.size, 0, none⟩ = some (.slice (some ad) 1 cap) := kept hb (by first | (simp only [World.cell?_drewN]; exact c4) | exact c4); have s5 : w'.cell? ad = some (.int .i64 p0) := kept hb (by first | (simp only [World.cell?_drewN]; exact c5) | exact c5); have BK3 : Aside0 (w'.heap[w.heap.size + 1 + 1]? = some (.cells #[.int .i64 0, .int .i64 0, .int .i64 0, .int .i64 0] 45 (0, 0))) := ⟨blk_below (by (with_reducible repeat (first | refine blk_drewN ?_ _ | refine blk_drew ?_)); exact X2) hb⟩; have HB3 : Aside0 (Below w.heap.size w w') := ⟨step (by (with_reducible repeat (first | refine pw_below_drewN ?_ _ | refine below_drew1 ?_)); exact XB) hb⟩))
  go_wp2_with fail
  refine (gray_any R G B A 65535 _).mono ?_
  rintro e w1 ⟨rfl, hb1⟩
  have BK := blk_below BK3.out hb1
  have hz0 : w1.cell? ⟨w.heap.size + 1 + 1, 0, none⟩ = some (.int .i64 0) := (blk_cell BK 0).trans rfl
  have hz1 : w1.cell? ⟨w.heap.size + 1 + 1, 1, none⟩ = some (.int .i64 0) := (blk_cell BK 1).trans rfl
  have hz2 : w1.cell? ⟨w.heap.size + 1 + 1, 2, none⟩ = some (.int .i64 0) := (blk_cell BK 2).trans rfl
  have hz3 : w1.cell? ⟨w.heap.size + 1 + 1, 3, none⟩ = some (.int .i64 0) := (blk_cell BK 3).trans rfl
  have hf0 := blk_frozen BK 0
  have hf1 := blk_frozen BK 1
  have hf2 := blk_frozen BK 2
  have hf3 := blk_frozen BK 3
  have HB := Aside0.mk (step HB3.out hb1)
  clear hb1 BK BK3 HB3
  dsimp only
  go_wp2
  refine bodyPost_ret (v := .agg #[.int .i64 65535, .int .i64 65535, .int .i64 65535, .int .i64 A]) (by simp [results, Try.results55, go_sem, hz0, hz1, hz2, hz3]) rfl ⟨rfl, ?_⟩
  repeat (first | exact HB.out | refine below_set ?_ (by omega))

set_option maxRecDepth 100000 in
set_option maxHeartbeats 3200000 in
theorem apply_6f (ad : Addr) (cap : Nat) (sv : Value) (p0 : Int) (R G B A : Int) (w : World) (V : Vld R G B A) (ha : A ≠ 0) (hp0 : w.cell? ad = some (.int .i64 p0)) (hl : ¬ p0 ≤ lumaV R G B) :
    Calls Try.prog 55 #[.int .i64 6, .slice (some ad) 1 cap, sv, .agg #[.int .i64 R, .int .i64 G, .int .i64 B, .int .i64 A]] w fun e w' => e = .returned (.agg #[.int .i64 0, .int .i64 0, .int .i64 0, .int .i64 A]) ∧ Below w.heap.size w w' := by
  have HV := Aside0.mk V
  have g0 : decide (p0 ≤ lumaV R G B) = false := decide_eq_false hl
  have HM : Aside0 (∀ w, Calls Try.prog 82 #[.agg #[.int .i64 R, .int .i64 G, .int .i64 B, .int .i64 A]] w fun e w' => e = .returned (.int .i64 (lumaV R G B)) ∧ Below w.heap.size w w') := ⟨fun w => luma_any R G B A w V⟩
  have HP := Aside0.mk hp0
  clear V hl hp0
  go_enter Try.func55, Try.ntmps55
  go_wp2_with fail
  generalize hW : ((w.alloc (.cells #[.slice (some ad) 1 cap] 32)).alloc (.cells #[.int .i64 R, .int .i64 G, .int .i64 B, .int .i64 A] 45)).alloc (.cells #[.int .i64 0, .int .i64 0, .int .i64 0, .int .i64 0] 45) = W
  obtain ⟨X0, X1, X2, XB, XS⟩ := three _ _ _ _ _ hW
  have c0 : W.cell? ⟨w.heap.size + 1, 0, none⟩ = some (.int .i64 R) := (blk_cell X1 0).trans rfl
  have c1 : W.cell? ⟨w.heap.size + 1, 1, none⟩ = some (.int .i64 G) := (blk_cell X1 1).trans rfl
  have c2 : W.cell? ⟨w.heap.size + 1, 2, none⟩ = some (.int .i64 B) := (blk_cell X1 2).trans rfl
  have c3 : W.cell? ⟨w.heap.size + 1, 3, none⟩ = some (.int .i64 A) := (blk_cell X1 3).trans rfl
  have c4 : W.cell? ⟨w.heap.size, 0, none⟩ = some (.slice (some ad) 1 cap) := (blk_cell X0 0).trans rfl
  have c5 : W.cell? ad = some (.int .i64 p0) := kept XB HP.out
  clear hW X0 X1
  go_region_held3 (fun w' => w'.cell? ⟨w.heap.size + 1, 0, none⟩ = some (.int .i64 R) ∧ w'.cell? ⟨w.heap.size + 1, 1, none⟩ = some (.int .i64 G) ∧ w'.cell? ⟨w.heap.size + 1, 2, none⟩ = some (.int .i64 B) ∧ w'.cell? ⟨w.heap.size + 1, 3, none⟩ = some (.int .i64 A) ∧ w'.cell? ⟨w.heap.size, 0, none⟩ = some (.slice (some ad) 1 cap) ∧ w'.cell? ad = some (.int .i64 p0))
    (first | go_keep | exact ⟨kept hb (by assumption), kept hb (by assumption), kept hb (by assumption), kept hb (by assumption), kept hb (by assumption), kept hb (by assumption)⟩ | (go_split_ands; exact ⟨kept hb (by assumption), kept hb (by assumption), kept hb (by assumption), kept hb (by assumption), kept hb (by assumption), kept hb (by assumption)⟩))
    ((go_at_call 82; refine (HM.out _).mono ?_; rintro e w' ⟨rfl, hb⟩; have s0 : w'.cell? ⟨w.heap.size + 1, 0, none⟩ = some (.int .i64 R) := kept hb (by first | (simp only [World.cell?_drewN]; exact c0) | exact c0); have s1 : w'.cell? ⟨w.heap.size + 1, 1, none⟩ = some (.int .i64 G) := kept hb (by first | (simp only [World.cell?_drewN]; exact c1) | exact c1); have s2 : w'.cell? ⟨w.heap.size + 1, 2, none⟩ = some (.int .i64 B) := kept hb (by first | (simp only [World.cell?_drewN]; exact c2) | exact c2); have s3 : w'.cell? ⟨w.heap.size + 1, 3, none⟩ = some (.int .i64 A) := kept hb (by first | (simp only [World.cell?_drewN]; exact c3) | exact c3); have s4 : w'.cell? ⟨w.heap.size, 0, none⟩ = some (.slice (some ad) 1 cap) := kept hb (by first | (simp only [World.cell?_drewN]; exact c4) | exact c4); have s5 : w'.cell? ad = some (.int .i64 p0) := kept hb (by first | (simp only [World.cell?_drewN]; exact c5) | exact c5); have BK3 : Aside0 (w'.heap[w.heap.size + 1 + 1]? = some (.cells #[.int .i64 0, .int .i64 0, .int .i64 0, .int .i64 0] 45 (0, 0))) := ⟨blk_below (by (with_reducible repeat (first | refine blk_drewN ?_ _ | refine blk_drew ?_)); exact X2) hb⟩; have HB3 : Aside0 (Below w.heap.size w w') := ⟨step (by (with_reducible repeat (first | refine pw_below_drewN ?_ _ | refine below_drew1 ?_)); exact XB) hb⟩))
  go_wp2_with fail
  refine (gray_any R G B A 0 _).mono ?_
  rintro e w1 ⟨rfl, hb1⟩
  have BK := blk_below BK3.out hb1
  have hz0 : w1.cell? ⟨w.heap.size + 1 + 1, 0, none⟩ = some (.int .i64 0) := (blk_cell BK 0).trans rfl
  have hz1 : w1.cell? ⟨w.heap.size + 1 + 1, 1, none⟩ = some (.int .i64 0) := (blk_cell BK 1).trans rfl
  have hz2 : w1.cell? ⟨w.heap.size + 1 + 1, 2, none⟩ = some (.int .i64 0) := (blk_cell BK 2).trans rfl
  have hz3 : w1.cell? ⟨w.heap.size + 1 + 1, 3, none⟩ = some (.int .i64 0) := (blk_cell BK 3).trans rfl
  have hf0 := blk_frozen BK 0
  have hf1 := blk_frozen BK 1
  have hf2 := blk_frozen BK 2
  have hf3 := blk_frozen BK 3
  have HB := Aside0.mk (step HB3.out hb1)
  clear hb1 BK BK3 HB3
  dsimp only
  go_wp2
  refine bodyPost_ret (v := .agg #[.int .i64 0, .int .i64 0, .int .i64 0, .int .i64 A]) (by simp [results, Try.results55, go_sem, hz0, hz1, hz2, hz3]) rfl ⟨rfl, ?_⟩
  repeat (first | exact HB.out | refine below_set ?_ (by omega))

theorem hcell {w1 W : World} (h : w1.heap = W.heap) {a : Addr} {v : Value} (hc : W.cell? a = some v) : w1.cell? a = some v := by
  rw [← hc]
  simp only [World.cell?, h]
def grayV (p0 p1 p2 r g b : Int) : Int := rdiv (p0 * r + p1 * g + p2 * b) (p0 + p1 + p2)
theorem prod_small (x y : Int) (x0 : 0 ≤ x) (x1 : x ≤ 65535) (y0 : 0 ≤ y) (y1 : y ≤ 65535) : 0 ≤ x * y ∧ x * y ≤ 4294836225 := by
  have h1 : x * y ≤ 65535 * y := Int.mul_le_mul_of_nonneg_right x1 y0
  have h0 : 0 ≤ x * y := Int.mul_nonneg x0 y0
  omega
set_option maxRecDepth 100000 in
set_option maxHeartbeats 8000000 in
theorem apply_9 (ad : Addr) (cap : Nat) (sv : Value) (p0 p1 p2 : Int) (R G B A : Int) (w : World) (V : Vld R G B A) (ha : A ≠ 0) (hp0 : w.cell? ad = some (.int .i64 p0)) (hp1 : w.cell? ⟨ad.block, ad.off + 1, none⟩ = some (.int .i64 p1)) (hp2 : w.cell? ⟨ad.block, ad.off + 2, none⟩ = some (.int .i64 p2)) (a0 : 0 ≤ p0) (a1 : p0 ≤ 65535) (b0 : 0 ≤ p1) (b1 : p1 ≤ 65535) (d0 : 0 ≤ p2) (d1 : p2 ≤ 65535) (hs : 0 < p0 + p1 + p2) :
    Calls Try.prog 55 #[.int .i64 9, .slice (some ad) 3 cap, sv, .agg #[.int .i64 R, .int .i64 G, .int .i64 B, .int .i64 A]] w fun e w' => e = .returned (.agg #[.int .i64 (grayV p0 p1 p2 R G B), .int .i64 (grayV p0 p1 p2 R G B), .int .i64 (grayV p0 p1 p2 R G B), .int .i64 A]) ∧ Below w.heap.size w w' := by
  obtain ⟨r0, r1, g0, g1, l0, l1, _, _⟩ := V
  obtain ⟨m0, m1⟩ := prod_small p0 R a0 a1 r0 r1
  obtain ⟨m2, m3⟩ := prod_small p1 G b0 b1 g0 g1
  obtain ⟨m4, m5⟩ := prod_small p2 B d0 d1 l0 l1
  have e1 := wi (p0 * R) (by omega) (by omega)
  have e2 := wi (p1 * G) (by omega) (by omega)
  have e3 := wi (p2 * B) (by omega) (by omega)
  have e4 := wi (p0 * R + p1 * G) (by omega) (by omega)
  have e5 := wi (p0 * R + p1 * G + p2 * B) (by omega) (by omega)
  have e6 := wi (p0 + p1) (by omega) (by omega)
  have e7 := wi (p0 + p1 + p2) (by omega) (by omega)
  have HD : Aside0 (∀ w, Qt 60 #[.int .i64 (p0 * R + p1 * G + p2 * B), .int .i64 (p0 + p1 + p2)] w (.int .i64 (grayV p0 p1 p2 R G B))) := ⟨fun w => divQ _ _ w hs (by omega) (by omega) (by omega)⟩
  have P0 := Aside0.mk hp0
  have P1 := Aside0.mk hp1
  have P2 := Aside0.mk hp2
  have hlt := World.block_lt_of_cell? w _ hp0
  clear hp0 hp1 hp2 m0 m1 m2 m3 m4 m5
  go_enter Try.func55, Try.ntmps55
  go_wp2_with fail
  generalize hW : ((w.alloc (.cells #[.slice (some ad) 3 cap] 32)).alloc (.cells #[.int .i64 R, .int .i64 G, .int .i64 B, .int .i64 A] 45)).alloc (.cells #[.int .i64 0, .int .i64 0, .int .i64 0, .int .i64 0] 45) = W
  obtain ⟨X0, X1, X2, XB, XS⟩ := three _ _ _ _ _ hW
  have c0 : W.cell? ⟨w.heap.size + 1, 0, none⟩ = some (.int .i64 R) := (blk_cell X1 0).trans rfl
  have c1 : W.cell? ⟨w.heap.size + 1, 1, none⟩ = some (.int .i64 G) := (blk_cell X1 1).trans rfl
  have c2 : W.cell? ⟨w.heap.size + 1, 2, none⟩ = some (.int .i64 B) := (blk_cell X1 2).trans rfl
  have c3 : W.cell? ⟨w.heap.size + 1, 3, none⟩ = some (.int .i64 A) := (blk_cell X1 3).trans rfl
  have c4 : W.cell? ⟨w.heap.size, 0, none⟩ = some (.slice (some ad) 3 cap) := (blk_cell X0 0).trans rfl
  have c5 : W.cell? ad = some (.int .i64 p0) := kept XB P0.out
  have c6 : W.cell? ⟨ad.block, ad.off + 1, none⟩ = some (.int .i64 p1) := kept XB P1.out
  have c7 : W.cell? ⟨ad.block, ad.off + 2, none⟩ = some (.int .i64 p2) := kept XB P2.out
  clear hW X0 X1
  go_region_held3 (fun w' => w'.cell? ⟨w.heap.size + 1, 0, none⟩ = some (.int .i64 R) ∧ w'.cell? ⟨w.heap.size + 1, 1, none⟩ = some (.int .i64 G) ∧ w'.cell? ⟨w.heap.size + 1, 2, none⟩ = some (.int .i64 B) ∧ w'.cell? ⟨w.heap.size + 1, 3, none⟩ = some (.int .i64 A) ∧ w'.cell? ⟨w.heap.size, 0, none⟩ = some (.slice (some ad) 3 cap) ∧ w'.cell? ad = some (.int .i64 p0) ∧ w'.cell? ⟨ad.block, ad.off + 1, none⟩ = some (.int .i64 p1) ∧ w'.cell? ⟨ad.block, ad.off + 2, none⟩ = some (.int .i64 p2))
    (with_reducible (first | exact ⟨kept hb (by assumption), kept hb (by assumption), kept hb (by assumption), kept hb (by assumption), kept hb (by assumption), kept hb (by assumption), kept hb (by assumption), kept hb (by assumption)⟩ | (go_split_ands; exact ⟨kept hb (by assumption), kept hb (by assumption), kept hb (by assumption), kept hb (by assumption), kept hb (by assumption), kept hb (by assumption), kept hb (by assumption), kept hb (by assumption)⟩) | (refine ⟨?_, ?_, ?_, ?_, ?_, ?_, ?_, ?_⟩ <;> first | assumption | (simp only [World.cell?_drew, World.cell?_drewN]; assumption) | (refine far4 (by first | omega | (dsimp only; omega)) ?_; assumption))))
    ((first | (go_at_call 60; refine (HD.out _).mono ?_; rintro e w' ⟨rfl, mm, rfl⟩) | (go_at_call 83; refine (gray_any R G B A (grayV p0 p1 p2 R G B) _).mono ?_; rintro e w' ⟨rfl, hb⟩; have s0 : w'.cell? ⟨w.heap.size + 1, 0, none⟩ = some (.int .i64 R) := kept hb (by first | (simp only [World.cell?_drewN]; exact c0) | exact c0); have s1 : w'.cell? ⟨w.heap.size + 1, 1, none⟩ = some (.int .i64 G) := kept hb (by first | (simp only [World.cell?_drewN]; exact c1) | exact c1); have s2 : w'.cell? ⟨w.heap.size + 1, 2, none⟩ = some (.int .i64 B) := kept hb (by first | (simp only [World.cell?_drewN]; exact c2) | exact c2); have s3 : w'.cell? ⟨w.heap.size + 1, 3, none⟩ = some (.int .i64 A) := kept hb (by first | (simp only [World.cell?_drewN]; exact c3) | exact c3); have s4 : w'.cell? ⟨w.heap.size, 0, none⟩ = some (.slice (some ad) 3 cap) := kept hb (by first | (simp only [World.cell?_drewN]; exact c4) | exact c4); have s5 : w'.cell? ad = some (.int .i64 p0) := kept hb (by first | (simp only [World.cell?_drewN]; exact c5) | exact c5); have s6 : w'.cell? ⟨ad.block, ad.off + 1, none⟩ = some (.int .i64 p1) := kept hb (by first | (simp only [World.cell?_drewN]; exact c6) | exact c6); have s7 : w'.cell? ⟨ad.block, ad.off + 2, none⟩ = some (.int .i64 p2) := kept hb (by first | (simp only [World.cell?_drewN]; exact c7) | exact c7); have BK3 : Aside0 (w'.heap[w.heap.size + 1 + 1]? = some (.cells #[.int .i64 0, .int .i64 0, .int .i64 0, .int .i64 0] 45 (0, 0))) := ⟨blk_below (by (with_reducible repeat (first | refine blk_drewN ?_ _ | refine blk_drew ?_)); exact X2) hb⟩; have HB3 : Aside0 (Below w.heap.size w w') := ⟨step (by (with_reducible repeat (first | refine pw_below_drewN ?_ _ | refine below_drew1 ?_)); exact XB) hb⟩; have hz0 : w'.cell? ⟨w.heap.size + 1 + 1, 0, none⟩ = some (.int .i64 0) := (blk_cell BK3.out 0).trans rfl; have hf0 := blk_frozen BK3.out 0; have hz1 : w'.cell? ⟨w.heap.size + 1 + 1, 1, none⟩ = some (.int .i64 0) := (blk_cell BK3.out 1).trans rfl; have hf1 := blk_frozen BK3.out 1; have hz2 : w'.cell? ⟨w.heap.size + 1 + 1, 2, none⟩ = some (.int .i64 0) := (blk_cell BK3.out 2).trans rfl; have hf2 := blk_frozen BK3.out 2; have hz3 : w'.cell? ⟨w.heap.size + 1 + 1, 3, none⟩ = some (.int .i64 0) := (blk_cell BK3.out 3).trans rfl; have hf3 := blk_frozen BK3.out 3)))
  go_wp2
  refine bodyPost_ret (v := .agg #[.int .i64 (grayV p0 p1 p2 R G B), .int .i64 (grayV p0 p1 p2 R G B), .int .i64 (grayV p0 p1 p2 R G B), .int .i64 A]) (by simp [results, Try.results55, go_sem, hz0, hz1, hz2, hz3]) rfl ⟨rfl, ?_⟩
  repeat (first | exact HB3.out | refine below_set ?_ (by omega))

set_option maxRecDepth 100000 in
set_option maxHeartbeats 8000000 in
theorem apply_8 (ad : Addr) (cap : Nat) (sv : Value) (p0 p1 p2 p3 p4 p5 p6 p7 p8 : Int) (R G B A : Int) (w : World) (V : Vld R G B A) (ha : A ≠ 0) (hc : 9 ≤ cap) (hp0 : w.cell? ad = some (.int .i64 p0)) (hp1 : w.cell? ⟨ad.block, ad.off + 1, none⟩ = some (.int .i64 p1)) (hp2 : w.cell? ⟨ad.block, ad.off + 2, none⟩ = some (.int .i64 p2)) (hp3 : w.cell? ⟨ad.block, ad.off + 3, none⟩ = some (.int .i64 p3)) (hp4 : w.cell? ⟨ad.block, ad.off + 4, none⟩ = some (.int .i64 p4)) (hp5 : w.cell? ⟨ad.block, ad.off + 5, none⟩ = some (.int .i64 p5)) (hp6 : w.cell? ⟨ad.block, ad.off + 6, none⟩ = some (.int .i64 p6)) (hp7 : w.cell? ⟨ad.block, ad.off + 7, none⟩ = some (.int .i64 p7)) (hp8 : w.cell? ⟨ad.block, ad.off + 8, none⟩ = some (.int .i64 p8)) (l0 : -262140 ≤ p0) (u0 : p0 ≤ 262140) (l1 : -262140 ≤ p1) (u1 : p1 ≤ 262140) (l2 : -262140 ≤ p2) (u2 : p2 ≤ 262140) (l3 : -262140 ≤ p3) (u3 : p3 ≤ 262140) (l4 : -262140 ≤ p4) (u4 : p4 ≤ 262140) (l5 : -262140 ≤ p5) (u5 : p5 ≤ 262140) (l6 : -262140 ≤ p6) (u6 : p6 ≤ 262140) (l7 : -262140 ≤ p7) (u7 : p7 ≤ 262140) (l8 : -262140 ≤ p8) (u8 : p8 ≤ 262140) :
    Calls Try.prog 55 #[.int .i64 8, .slice (some ad) 9 cap, sv, .agg #[.int .i64 R, .int .i64 G, .int .i64 B, .int .i64 A]] w fun e w' => e = .returned (.agg #[.int .i64 (mixerV p0 p1 p2 R G B), .int .i64 (mixerV p3 p4 p5 R G B), .int .i64 (mixerV p6 p7 p8 R G B), .int .i64 A]) ∧ Below w.heap.size w w' := by
  have HV := Aside0.mk V
  have k3 : (3 : Int) ≤ (cap : Int) := by omega
  have k6 : (6 : Int) ≤ (cap : Int) := by omega
  have k9 : (9 : Int) ≤ (cap : Int) := by omega
  have q3 : 3 ≤ cap := by omega
  have q6 : 6 ≤ cap := by omega
  clear V
  have P0 := Aside0.mk hp0
  have P1 := Aside0.mk hp1
  have P2 := Aside0.mk hp2
  have P3 := Aside0.mk hp3
  have P4 := Aside0.mk hp4
  have P5 := Aside0.mk hp5
  have P6 := Aside0.mk hp6
  have P7 := Aside0.mk hp7
  have P8 := Aside0.mk hp8
  clear hp0 hp1 hp2 hp3 hp4 hp5 hp6 hp7 hp8
  go_enter Try.func55, Try.ntmps55
  go_wp2_with fail
  generalize hW : ((w.alloc (.cells #[.slice (some ad) 9 cap] 32)).alloc (.cells #[.int .i64 R, .int .i64 G, .int .i64 B, .int .i64 A] 45)).alloc (.cells #[.int .i64 0, .int .i64 0, .int .i64 0, .int .i64 0] 45) = W
  obtain ⟨X0, X1, X2, XB, XS⟩ := three _ _ _ _ _ hW
  have c0 : W.cell? ⟨w.heap.size + 1, 0, none⟩ = some (.int .i64 R) := (blk_cell X1 0).trans rfl
  have c1 : W.cell? ⟨w.heap.size + 1, 1, none⟩ = some (.int .i64 G) := (blk_cell X1 1).trans rfl
  have c2 : W.cell? ⟨w.heap.size + 1, 2, none⟩ = some (.int .i64 B) := (blk_cell X1 2).trans rfl
  have c3 : W.cell? ⟨w.heap.size + 1, 3, none⟩ = some (.int .i64 A) := (blk_cell X1 3).trans rfl
  have c4 : W.cell? ⟨w.heap.size, 0, none⟩ = some (.slice (some ad) 9 cap) := (blk_cell X0 0).trans rfl
  have c5 : W.cell? ad = some (.int .i64 p0) := kept XB P0.out
  have c6 : W.cell? ⟨ad.block, ad.off + 1, none⟩ = some (.int .i64 p1) := kept XB P1.out
  have c7 : W.cell? ⟨ad.block, ad.off + 2, none⟩ = some (.int .i64 p2) := kept XB P2.out
  have c8 : W.cell? ⟨ad.block, ad.off + 3, none⟩ = some (.int .i64 p3) := kept XB P3.out
  have c9 : W.cell? ⟨ad.block, ad.off + 4, none⟩ = some (.int .i64 p4) := kept XB P4.out
  have c10 : W.cell? ⟨ad.block, ad.off + 5, none⟩ = some (.int .i64 p5) := kept XB P5.out
  have c11 : W.cell? ⟨ad.block, ad.off + 6, none⟩ = some (.int .i64 p6) := kept XB P6.out
  have c12 : W.cell? ⟨ad.block, ad.off + 7, none⟩ = some (.int .i64 p7) := kept XB P7.out
  have c13 : W.cell? ⟨ad.block, ad.off + 8, none⟩ = some (.int .i64 p8) := kept XB P8.out
  have M1 : Aside0 (∀ w', w'.heap = W.heap → Qt 85 #[.slice (some ad) 3 cap, .pointer (some ⟨w.heap.size + 1, 0, none⟩)] w' (.int .i64 (mixerV p0 p1 p2 R G B))) := ⟨fun w' h => by
    obtain ⟨r0, r1, g0, g1, b0, b1, _, _⟩ := HV.out
    exact mixerQ _ ad 3 cap p0 p1 p2 R G B w' (by omega) (hcell h c5) (hcell h c6) (hcell h c7) (hcell h c0) (hcell h c1) (hcell h c2) l0 u0 l1 u1 l2 u2 r0 r1 g0 g1 b0 b1⟩
  have M2 : Aside0 (∀ w', w'.heap = W.heap → Qt 85 #[.slice (some ⟨ad.block, ad.off + 3, none⟩) 3 (cap - 3), .pointer (some ⟨w.heap.size + 1, 0, none⟩)] w' (.int .i64 (mixerV p3 p4 p5 R G B))) := ⟨fun w' h => by
    obtain ⟨r0, r1, g0, g1, b0, b1, _, _⟩ := HV.out
    exact mixerQ _ ⟨ad.block, ad.off + 3, none⟩ 3 (cap - 3) p3 p4 p5 R G B w' (by omega) (hcell h c8) (hcell h c9) (hcell h c10) (hcell h c0) (hcell h c1) (hcell h c2) l3 u3 l4 u4 l5 u5 r0 r1 g0 g1 b0 b1⟩
  have M3 : Aside0 (∀ w', w'.heap = W.heap → Qt 85 #[.slice (some ⟨ad.block, ad.off + 6, none⟩) 3 (cap - 6), .pointer (some ⟨w.heap.size + 1, 0, none⟩)] w' (.int .i64 (mixerV p6 p7 p8 R G B))) := ⟨fun w' h => by
    obtain ⟨r0, r1, g0, g1, b0, b1, _, _⟩ := HV.out
    exact mixerQ _ ⟨ad.block, ad.off + 6, none⟩ 3 (cap - 6) p6 p7 p8 R G B w' (by omega) (hcell h c11) (hcell h c12) (hcell h c13) (hcell h c0) (hcell h c1) (hcell h c2) l6 u6 l7 u7 l8 u8 r0 r1 g0 g1 b0 b1⟩
  have hz0 : W.cell? ⟨w.heap.size + 1 + 1, 0, none⟩ = some (.int .i64 0) := (blk_cell X2 0).trans rfl
  have hz1 : W.cell? ⟨w.heap.size + 1 + 1, 1, none⟩ = some (.int .i64 0) := (blk_cell X2 1).trans rfl
  have hz2 : W.cell? ⟨w.heap.size + 1 + 1, 2, none⟩ = some (.int .i64 0) := (blk_cell X2 2).trans rfl
  have hz3 : W.cell? ⟨w.heap.size + 1 + 1, 3, none⟩ = some (.int .i64 0) := (blk_cell X2 3).trans rfl
  have hf0 := blk_frozen X2 0
  have hf1 := blk_frozen X2 1
  have hf2 := blk_frozen X2 2
  have hf3 := blk_frozen X2 3
  have HB3 := Aside0.mk XB
  have hlt := World.block_lt_of_cell? w _ P0.out
  clear hW X0 X1 X2 XB l0 u0 l1 u1 l2 u2 l3 u3 l4 u4 l5 u5 l6 u6 l7 u7 l8 u8 hc
  go_region_held3 (fun w' => w'.cell? ⟨w.heap.size + 1, 0, none⟩ = some (.int .i64 R) ∧ w'.cell? ⟨w.heap.size + 1, 1, none⟩ = some (.int .i64 G) ∧ w'.cell? ⟨w.heap.size + 1, 2, none⟩ = some (.int .i64 B) ∧ w'.cell? ⟨w.heap.size + 1, 3, none⟩ = some (.int .i64 A) ∧ w'.cell? ⟨w.heap.size, 0, none⟩ = some (.slice (some ad) 9 cap) ∧ w'.cell? ad = some (.int .i64 p0) ∧ w'.cell? ⟨ad.block, ad.off + 1, none⟩ = some (.int .i64 p1) ∧ w'.cell? ⟨ad.block, ad.off + 2, none⟩ = some (.int .i64 p2) ∧ w'.cell? ⟨ad.block, ad.off + 3, none⟩ = some (.int .i64 p3) ∧ w'.cell? ⟨ad.block, ad.off + 4, none⟩ = some (.int .i64 p4) ∧ w'.cell? ⟨ad.block, ad.off + 5, none⟩ = some (.int .i64 p5) ∧ w'.cell? ⟨ad.block, ad.off + 6, none⟩ = some (.int .i64 p6) ∧ w'.cell? ⟨ad.block, ad.off + 7, none⟩ = some (.int .i64 p7) ∧ w'.cell? ⟨ad.block, ad.off + 8, none⟩ = some (.int .i64 p8))
    (with_reducible (first | (refine ⟨?_, ?_, ?_, ?_, ?_, ?_, ?_, ?_, ?_, ?_, ?_, ?_, ?_, ?_⟩ <;> first | assumption | (simp only [World.cell?_drew, World.cell?_drewN]; assumption) | (refine far4 (by first | omega | (dsimp only; omega)) ?_; first | assumption | (simp only [World.cell?_drewN]; assumption)))))
    ((go_at_call 85; (with_reducible first | refine (M1.out _ ?_).mono ?_ | refine (M2.out _ ?_).mono ?_ | refine (M3.out _ ?_).mono ?_); rfl; rintro e w' ⟨rfl, mm, rfl⟩))
  go_wp2
  refine bodyPost_ret (v := .agg #[.int .i64 (mixerV p0 p1 p2 R G B), .int .i64 (mixerV p3 p4 p5 R G B), .int .i64 (mixerV p6 p7 p8 R G B), .int .i64 A]) (by simp [results, Try.results55, go_sem, hz0, hz1, hz2, hz3]) rfl ⟨rfl, ?_⟩
  with_reducible repeat (first | exact HB3.out | refine pw_below_drewN ?_ _ | refine below_drew1 ?_ | refine below_set ?_ (by omega))

set_option maxRecDepth 100000 in
set_option maxHeartbeats 8000000 in
theorem apply_10 (P S : Option Addr) (n cap sc : Nat) (l : List S74) (v0 v1 v2 v3 : Int) (R G B A : Int) (w : World) (V : Vld R G B A) (ha : A ≠ 0) (hr : Kd.C k74 w S l.length l) (hc : l.length ≤ sc) (HG : GoodStops l) (hq : mappedPix l (lumaV R G B) = .agg #[.int .i64 v0, .int .i64 v1, .int .i64 v2, .int .i64 v3]) :
    Calls Try.prog 55 #[.int .i64 10, .slice P n cap, .slice S l.length sc, .agg #[.int .i64 R, .int .i64 G, .int .i64 B, .int .i64 A]] w fun e w' => e = .returned (.agg #[.int .i64 v0, .int .i64 v1, .int .i64 v2, .int .i64 A]) ∧ Below w.heap.size w w' := by
  have HV := Aside0.mk V
  have HR := Aside0.mk hr
  have HQ := Aside0.mk hq
  have HL := Aside0.mk (luma_range R G B A V)
  clear V hr hq
  go_enter Try.func55, Try.ntmps55
  go_wp2_with fail
  generalize hW : ((w.alloc (.cells #[.slice P n cap] 32)).alloc (.cells #[.int .i64 R, .int .i64 G, .int .i64 B, .int .i64 A] 45)).alloc (.cells #[.int .i64 0, .int .i64 0, .int .i64 0, .int .i64 0] 45) = W
  obtain ⟨X0, X1, X2, XB, XS⟩ := three _ _ _ _ _ hW
  clear hW X0
  refine (luma_any R G B A W HV.out).mono ?_
  rintro e w1 ⟨rfl, hb⟩
  have Y1 := blk_below X1 hb
  have Y2 := blk_below X2 hb
  have YB := step XB hb
  clear X1 X2 XB hb XS
  dsimp only
  go_wp2_with fail
  refine (mapped_any S sc l (lumaV R G B) w1 (Kd.C_below HR.out YB) hc HG HL.out.2).mono ?_
  rw [HQ.out]
  rintro e w2 ⟨rfl, hb⟩
  have Z1 := blk_below Y1 hb
  have Z2 := blk_below Y2 hb
  have ZB := Aside0.mk (step YB hb)
  have hlt := blk_lt Z2
  have hA := fun o => kept (below_alloc (Below.refl _ w2) o) ((blk_cell Z1 3).trans rfl : w2.cell? ⟨w.heap.size + 1, 3, none⟩ = some (.int .i64 A))
  have hz0 : w2.cell? ⟨w.heap.size + 1 + 1, 0, none⟩ = some (.int .i64 0) := (blk_cell Z2 0).trans rfl
  have hf0 := blk_frozen Z2 0
  have hy0 := fun o => kept (below_alloc (Below.refl _ w2) o) hz0
  have hg0 := fun o => keptF (below_alloc (Below.refl _ w2) o) _ hz0 hf0
  have hz1 : w2.cell? ⟨w.heap.size + 1 + 1, 1, none⟩ = some (.int .i64 0) := (blk_cell Z2 1).trans rfl
  have hf1 := blk_frozen Z2 1
  have hy1 := fun o => kept (below_alloc (Below.refl _ w2) o) hz1
  have hg1 := fun o => keptF (below_alloc (Below.refl _ w2) o) _ hz1 hf1
  have hz2 : w2.cell? ⟨w.heap.size + 1 + 1, 2, none⟩ = some (.int .i64 0) := (blk_cell Z2 2).trans rfl
  have hf2 := blk_frozen Z2 2
  have hy2 := fun o => kept (below_alloc (Below.refl _ w2) o) hz2
  have hg2 := fun o => keptF (below_alloc (Below.refl _ w2) o) _ hz2 hf2
  have hz3 : w2.cell? ⟨w.heap.size + 1 + 1, 3, none⟩ = some (.int .i64 0) := (blk_cell Z2 3).trans rfl
  have hf3 := blk_frozen Z2 3
  have hy3 := fun o => kept (below_alloc (Below.refl _ w2) o) hz3
  have hg3 := fun o => keptF (below_alloc (Below.refl _ w2) o) _ hz3 hf3
  clear Y1 Y2 YB hb Z1 Z2
  dsimp only
  go_wp2
  generalize hX : (((w2.setCell ⟨w.heap.size + 1 + 1, 0, none⟩ (.int .i64 v0)).setCell ⟨w.heap.size + 1 + 1, 1, none⟩ (.int .i64 v1)).setCell ⟨w.heap.size + 1 + 1, 2, none⟩ (.int .i64 v2)).setCell ⟨w.heap.size + 1 + 1, 3, none⟩ (.int .i64 A) = X
  obtain ⟨z0, z1, z2, z3⟩ := put4 hz0 hz1 hz2 hz3 hX
  have t0 := fun o => kept (below_alloc (Below.refl _ X) o) z0
  have t1 := fun o => kept (below_alloc (Below.refl _ X) o) z1
  have t2 := fun o => kept (below_alloc (Below.refl _ X) o) z2
  have t3 := fun o => kept (below_alloc (Below.refl _ X) o) z3
  refine bodyPost_ret (v := .agg #[.int .i64 v0, .int .i64 v1, .int .i64 v2, .int .i64 A]) (by simp [results, Try.results55, go_sem, t0, t1, t2, t3]) rfl ⟨rfl, below_alloc ?_ _⟩
  rw [← hX]
  repeat (first | exact ZB.out | refine below_set ?_ (by omega))

end Go.Proofs.Ytmgpmpiondciiaa.Adj
