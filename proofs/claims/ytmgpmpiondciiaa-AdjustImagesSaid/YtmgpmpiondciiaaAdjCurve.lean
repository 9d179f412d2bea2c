/- adjust.apply by a curve, as a contract. No condition but the bounds of each theorem. -/
import Derived.Test.YtmgpmpiondciiaaAdjApp
import Derived.Test.YtmgpmpiondciiaaAdjAt
import Derived.Deep.RegionLaw
namespace Go.Proofs.Ytmgpmpiondciiaa.Adj
open Go.RowKit Go.Proofs.Ytmgpmpiondciiaa.PAdjustImages Go.Proofs.YtmgpmpiondciiaaW.PrintWords Go.Proofs.YtmgpmpiondciiaaW.PrintMore Go.Proofs.Ytmgpmpiondciiaa.Plain
theorem info42' : (Try.prog.info? 42).map (fun i => (i.zero, i.size, i.bytes)) = some (some (.agg #[.int .i64 0, .int .i64 0]), 2, 16) := by kernel_rfl
abbrev Kn := PAt.S42
def knots (l : List Int) (j : Nat) : List Kn := (List.range j).map fun i => ⟨rd l ((2 * i : Nat) : Int), rd l ((2 * i + 1 : Nat) : Int)⟩
theorem knots_len (l : List Int) (j : Nat) : (knots l j).length = j := by simp [knots]
theorem knots_succ (l : List Int) (j : Nat) : knots l (j + 1) = knots l j ++ [⟨rd l ((2 * j : Nat) : Int), rd l ((2 * j + 1 : Nat) : Int)⟩] := by simp [knots, List.range_succ]
def curvV (l : List Int) (c : Int) : Int := atv (At.X (knots l (l.length / 2))) (At.Y (knots l (l.length / 2))) (l.length / 2) c
set_option maxRecDepth 100000 in
theorem at79 (ca : Addr) (A : Option Addr) (cap : Nat) (K : List Kn) (c : Int) (w : World) (hca : w.cell? ca = some (.slice A K.length cap)) (hr : Kd.C PAt.k42 w A K.length K) (hc : K.length ≤ cap) :
    Calls Try.prog 79 #[.int .i64 c, .pointer (some ca)] w fun e w' => e = .returned (.int .i64 (atv (At.X K) (At.Y K) K.length c)) ∧ Below w.heap.size w w' := by
  have HD := Lib.hid (PAt.curve_At.calls 40 A cap K c _ w hr hc (At.at_f 40 K c (by omega)))
  clear hr
  go_enter Try.func79, Try.ntmps79
  go_wp2_with fail
  refine HD.out.mono ?_
  rintro e w' ⟨rfl, hb⟩
  dsimp only
  go_wp2
  go_ret
  exact ⟨rfl, hb⟩
set_option maxRecDepth 100000 in
set_option maxHeartbeats 8000000 in
theorem apply_3 (P : Option Addr) (cap : Nat) (sv : Value) (l : List Int) (R G B A : Int) (w : World) (V : Vld R G B A) (ha : A ≠ 0) (hp : Ints w P l) (l16 : l.length ≤ 16) (l2 : l.length % 2 = 0) :
    Calls Try.prog 55 #[.int .i64 3, .slice P l.length cap, sv, .agg #[.int .i64 R, .int .i64 G, .int .i64 B, .int .i64 A]] w fun e w' => e = .returned (.agg #[.int .i64 (curvV l R), .int .i64 (curvV l G), .int .i64 (curvV l B), .int .i64 A]) ∧ Below w.heap.size w w' := by
  have HV := Aside0.mk V
  have HP := Aside0.mk hp
  have qa : (A == 0) = false := by simpa using ha
  clear V hp ha
  go_enter Try.func55, Try.ntmps55
  go_wp2_with fail
  generalize hW : ((w.alloc (.cells #[.slice P l.length cap] 32)).alloc (.cells #[.int .i64 R, .int .i64 G, .int .i64 B, .int .i64 A] 45)).alloc (.cells #[.int .i64 0, .int .i64 0, .int .i64 0, .int .i64 0] 45) = W
  obtain ⟨X0, X1, X2, XB, XS⟩ := three _ _ _ _ _ hW
  clear hW
  have X9 := blk_new W (.cells #[.slice none 0 0] 22)
  rw [XS] at X9
  have Y0 := Aside0.mk (blk_alloc X0 (.cells #[.slice none 0 0] 22))
  have Y1 := Aside0.mk (blk_alloc X1 (.cells #[.slice none 0 0] 22))
  have Y2 := Aside0.mk (blk_alloc X2 (.cells #[.slice none 0 0] 22))
  have Y9 := Aside0.mk X9
  have YB := Aside0.mk (below_alloc XB (.cells #[.slice none 0 0] 22))
  have YS : Aside0 (w.heap.size + 4 ≤ (W.alloc (.cells #[.slice none 0 0] 22)).heap.size) := ⟨by simp [XS]⟩
  clear X0 X1 X2 X9 XB XS
  go_loopw [10] (fun a wr => ∃ (j : Nat) (x : Int) (v : Value), a = .int .i64 x ∧ x = 2 * j ∧ 2 * j ≤ l.length ∧ Aside0 (wr.heap[w.heap.size]? = some (.cells #[.slice P l.length cap] 32 (0, 0))) ∧ Aside0 (wr.heap[w.heap.size + 1]? = some (.cells #[.int .i64 R, .int .i64 G, .int .i64 B, .int .i64 A] 45 (0, 0))) ∧ Aside0 (wr.heap[w.heap.size + 1 + 1]? = some (.cells #[.int .i64 0, .int .i64 0, .int .i64 0, .int .i64 0] 45 (0, 0))) ∧ Aside0 (wr.heap[w.heap.size + 3]? = some (.cells #[v] 22 (0, 0))) ∧ Aside0 (Kd.R PAt.k42 42 wr (w.heap.size + 4) (fun k => k ≠ w.heap.size + 3) v (knots l j)) ∧ Aside0 (w.heap.size + 4 ≤ wr.heap.size) ∧ Aside0 (Below w.heap.size w wr)) (fun a _ => l.length - (intOf a).toNat)
  case atStart => exact ⟨0, 0, .slice none 0 0, rfl, rfl, by omega, Y0, Y1, Y2, Y9, ⟨Kd.R_nil _ _ _ _ _⟩, YS, YB⟩
  case round =>
    clear Y0 Y1 Y2 Y9 YB YS
    obtain ⟨j, x, v, rfl, hx, hj, Y0, Y1, Y2, Y9, HO, YS, YB⟩ := hrel
    have c5 : wr.cell? ⟨w.heap.size, 0, none⟩ = some (.slice P l.length cap) := (blk_cell Y0.out 0).trans rfl
    have c9 : wr.cell? ⟨w.heap.size + 1 + 1 + 1, 0, none⟩ = some v := (blk_cell Y9.out 0).trans rfl
    by_cases hlt : 2 * j < l.length
    · have b0 : 0 ≤ x := by omega
      have b1 : x < (l.length : Int) := by omega
      have b2 : 0 ≤ x + 1 := by omega
      have b3 : x + 1 < (l.length : Int) := by omega
      obtain ⟨ad, e, x0⟩ := Kd.at_int HP.out x b0 b1
      obtain ⟨ad', e', x1⟩ := Kd.at_int HP.out (x + 1) b2 b3
      rw [e] at e'
      obtain rfl : ad = ad' := by injection e'
      clear e'
      replace x0 := kept YB.out x0
      replace x1 := kept YB.out x1
      have e1 := wi (x + 1) (by omega) (by omega)
      have e2 := wi (x + 2) (by omega) (by omega)
      have HX := Aside0.mk hx
      clear hx
      subst e
      have u5 : (knots l j).length = j := knots_len l j
      have c9a := fun o => kept (below_alloc (Below.refl _ wr) o) c9
      go_wp2
      go_region_law ((refine Kd.R_append_step PAt.k42 (w0 := wr) (W := wr.drew) (w.heap.size + 4) (by rfl) (.tmp 36) (.tmp 47) 22 42 (.agg #[.int .i64 0, .int .i64 0]) 16 (by rfl) Try.underlying22 info42' rfl (by decide) (by omega) v (knots l j) (⟨rd l x, rd l (x + 1)⟩ : Kn) [.int .i64 (rd l x), .int .i64 (rd l (x + 1))] (fun k => k ≠ w.heap.size + 3) (fun _ => False) (by rfl) (by rfl) ?aP (fun _ hk => hk.elim) ?aF ?aO ?aB ?aS ?aL ?_); (case aP => exact PAt.k42_mkM _ _ _ _); (case aF => exact (fun k hk => by have := YS.out; have hk : wr.heap.size ≤ k := (by simpa using hk); show k ≠ w.heap.size + 3; omega)); (case aO => exact (by (with_reducible repeat (first | apply Kd.R_alloc | apply Kd.R_drewN | apply Kd.R_drew)); exact HO.out)); (case aB => exact (by with_reducible repeat (first | exact Below.refl _ _ | refine pw_below_drewN ?_ _ | refine below_drew1 ?_))); (case aS => exact (by have := YS.out; simpa using this)); (case aL => omega); intro v1 w1 ho hb hg hat; obtain ⟨A1, k1, rfl⟩ := Kd.R_slice ho; have Z0 := Aside0.mk ((hb.block w.heap.size (by omega)).trans Y0.out); have Z1 := Aside0.mk ((hb.block (w.heap.size + 1) (by omega)).trans Y1.out); have Z2 := Aside0.mk ((hb.block (w.heap.size + 1 + 1) (by omega)).trans Y2.out); have Z9 := Aside0.mk ((hb.block (w.heap.size + 3) (by omega)).trans Y9.out); have d9 : w1.cell? ⟨w.heap.size + 1 + 1 + 1, 0, none⟩ = some v := (blk_cell Z9.out 0).trans rfl; have f9 : w1.frozen? ⟨w.heap.size + 1 + 1 + 1, 0, none⟩ = false := blk_frozen Z9.out 0; have ZO := Aside0.mk ho; have ZB := Aside0.mk hb; clear ho hb hg hat)
      all_goals
        have ZE : Aside0 (knots l j ++ [(⟨rd l x, rd l (x + 1)⟩ : Kn)] = knots l (j + 1)) := ⟨by rw [knots_succ, HX.out]; rfl⟩
        go_wp2
        go_roundw
        case rel =>
          refine ⟨j + 1, x + 2, .slice A1 (j + 1) k1, rfl, by have := HX.out; omega, by omega, ⟨blk_far Z0.out (by show w.heap.size ≠ w.heap.size + 1 + 1 + 1; omega) _⟩, ⟨blk_far Z1.out (by show w.heap.size + 1 ≠ w.heap.size + 1 + 1 + 1; omega) _⟩, ⟨blk_far Z2.out (by show w.heap.size + 1 + 1 ≠ w.heap.size + 1 + 1 + 1; omega) _⟩, ⟨blk_put Z9.out 0 _ rfl⟩, ⟨?_⟩, ⟨?_⟩, ⟨?_⟩⟩
          · rw [← ZE.out]
            have h := ZO.out
            simp only [List.length_append, u5, List.length_singleton] at h
            exact Kd.R_far h (fun k hk => hk) _
          · have h1 := ZB.out.size
            have h2 := YS.out
            simp only [World.size_setCell]
            omega
          · exact below_set (YB.out.trans (ZB.out.mono (by omega))) (by omega)
        case measure => have := HX.out; simp [intOf]; omega
    · obtain ⟨A1, k1, rfl, hk1, hC⟩ := Kd.R_reads HO.out
      have hj2 : j = l.length / 2 := by omega
      have p0 : wr.cell? ⟨w.heap.size + 1, 0, none⟩ = some (.int .i64 R) := (blk_cell Y1.out 0).trans rfl
      have p1 : wr.cell? ⟨w.heap.size + 1, 1, none⟩ = some (.int .i64 G) := (blk_cell Y1.out 1).trans rfl
      have p2 : wr.cell? ⟨w.heap.size + 1, 2, none⟩ = some (.int .i64 B) := (blk_cell Y1.out 2).trans rfl
      have p3 : wr.cell? ⟨w.heap.size + 1, 3, none⟩ = some (.int .i64 A) := (blk_cell Y1.out 3).trans rfl
      have b7 : ¬ x < (l.length : Int) := by omega
      have HC := Aside0.mk hC
      have HJ := Aside0.mk hj2
      have HK := Aside0.mk hk1
      clear hlt hx hj hC hj2 hk1 HO Y0 Y1
      go_wp2_with fail
      refine (each_79 (fun c => curvV l c) ⟨w.heap.size + 1 + 1 + 1, 0, none⟩ R G B A wr HV.out.r0 HV.out.r1 HV.out.g0 HV.out.g1 HV.out.b0 HV.out.b1 (fun c w1 c0 c1 hb => ?_)).mono ?_
      · have h := at79 ⟨w.heap.size + 1 + 1 + 1, 0, none⟩ A1 k1 (knots l j) c w1 ((blk_cell (blk_below Y9.out hb) 0).trans rfl) (Kd.C_below HC.out hb) HK.out
        rw [knots_len, HJ.out] at h
        exact h
      rintro e w' ⟨rfl, hb⟩
      have BK := blk_below Y2.out hb
      have hz0 : w'.cell? ⟨w.heap.size + 1 + 1, 0, none⟩ = some (.int .i64 0) := (blk_cell BK 0).trans rfl
      have hf0 := blk_frozen BK 0
      have hz1 : w'.cell? ⟨w.heap.size + 1 + 1, 1, none⟩ = some (.int .i64 0) := (blk_cell BK 1).trans rfl
      have hf1 := blk_frozen BK 1
      have hz2 : w'.cell? ⟨w.heap.size + 1 + 1, 2, none⟩ = some (.int .i64 0) := (blk_cell BK 2).trans rfl
      have hf2 := blk_frozen BK 2
      have hz3 : w'.cell? ⟨w.heap.size + 1 + 1, 3, none⟩ = some (.int .i64 0) := (blk_cell BK 3).trans rfl
      have hf3 := blk_frozen BK 3
      have HB := Aside0.mk (step YB.out hb)
      clear YB hb BK
      dsimp only
      go_wp2
      refine bodyPost_ret (v := .agg #[.int .i64 (curvV l R), .int .i64 (curvV l G), .int .i64 (curvV l B), .int .i64 A]) (by simp [results, Try.results55, go_sem, hz0, hz1, hz2, hz3]) rfl ⟨rfl, ?_⟩
      repeat (first | exact HB.out | refine below_set ?_ (by omega))
end Go.Proofs.Ytmgpmpiondciiaa.Adj
