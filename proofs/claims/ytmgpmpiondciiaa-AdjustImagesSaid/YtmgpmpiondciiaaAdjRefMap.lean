/- The reference's mapped as a contract: the color of stops at a place. No condition but the bounds of each theorem. -/
import Derived.Test.YtmgpmpiondciiaaAdjMap
import Derived.Test.YtmgpmpiondciiaaAdjRefMix
namespace Go.Proofs.Ytmgpmpiondciiaa.Adj
open Go.RowKit Go.Proofs.Ytmgpmpiondciiaa.PAdjustImages Go.Proofs.YtmgpmpiondciiaaW.PrintWords Go.Proofs.YtmgpmpiondciiaaW.PrintMore Go.Proofs.Ytmgpmpiondciiaa.Plain
set_option maxRecDepth 100000 in
set_option maxHeartbeats 3200000 in
theorem rmapped_first (ad : Addr) (cap : Nat) (l : List S74) (t : Int) (w : World) (hr : Kd.C k74 w (some ad) l.length l) (hc : l.length ≤ cap) (hl : 1 ≤ l.length) (ht : t ≤ (st l 0).f0) :
    Calls Try.prog 91 #[.slice (some ad) l.length cap, .int .i64 t] w fun e w' => e = .returned (colV (st l 0)) ∧ Below w.heap.size w w' := by
  have _ := hc
  obtain ⟨ad', e, x0, x1, x2, x3, x4⟩ := at_T74 hr 0 (by omega) (by omega)
  obtain rfl : ad = ad' := by injection e
  have e0 : ad.add (Int.toNat 0 * 5) = ad := by simp [Addr.add]
  rw [e0] at x0 x1 x2 x3 x4
  clear e e0
  have g0 : decide (t ≤ (rd_T74 l 0).f0) = true := decide_eq_true ht
  have g1 : 0 < l.length := by omega
  have g2 : (0 : Int) < (l.length : Int) := by omega
  have HB := Aside0.mk (Below.refl w.heap.size w)
  have y0 := fun o => kept (below_alloc (Below.refl _ w) o) x0
  have y1 := fun o => kept (below_alloc (Below.refl _ w) o) x1
  have y2 := fun o => kept (below_alloc (Below.refl _ w) o) x2
  have y3 := fun o => kept (below_alloc (Below.refl _ w) o) x3
  have y4 := fun o => kept (below_alloc (Below.refl _ w) o) x4
  clear ht hl hr
  go_enter Try.func91, Try.ntmps91
  go_wp2_with fail
  refine bodyPost_ret (v := colV (st l 0)) (by simp [results, Try.results91, go_sem, colV, st]) rfl ⟨rfl, below_alloc HB.out _⟩

set_option maxRecDepth 100000 in
set_option maxHeartbeats 8000000 in
theorem rmapped_later (ad : Addr) (cap : Nat) (l : List S74) (t : Int) (w : World) (hr : Kd.C k74 w (some ad) l.length l) (hc : l.length ≤ cap) (G : GoodStops l) (ht : ¬ t ≤ (st l 0).f0) (t1 : t ≤ 65535) :
    Calls Try.prog 91 #[.slice (some ad) l.length cap, .int .i64 t] w fun e w' => e = .returned (mappedPix l t) ∧ Below w.heap.size w w' := by
  have _ := hc
  have hl := G.one
  have hmax := G.most
  have HR := Aside0.mk hr
  have HG := Aside0.mk G
  obtain ⟨ad', e, x0, _⟩ := at_T74 hr 0 (by omega) (by omega)
  obtain rfl : ad = ad' := by injection e
  have e0 : ad.add (Int.toNat 0 * 5) = ad := by simp [Addr.add]
  rw [e0] at x0
  clear e e0
  have g0 : decide (t ≤ (rd_T74 l 0).f0) = false := decide_eq_false ht
  have g1 : 0 < l.length := by omega
  have g2 : (0 : Int) < (l.length : Int) := by omega
  have HB := Aside0.mk (Below.refl w.heap.size w)
  have y0 := fun o => kept (below_alloc (Below.refl _ w) o) x0
  have H0 : Aside0 (mappedPix l t = mapAt l t (l.length - 1) 1) := ⟨by unfold mappedPix; rw [if_neg ht]⟩
  have HT : Aside0 ((st l (1 - 1)).f0 ≤ t) := ⟨by have : ¬ t ≤ (st l (1 - 1)).f0 := ht; omega⟩
  clear ht hr G
  go_enter Try.func91, Try.ntmps91
  go_wp2_with fail
  go_loopw [5] (fun a wr => ∃ (i : Nat) (x : Int), a = .int .i64 x ∧ x = i ∧ 1 ≤ i ∧ i ≤ l.length ∧ Aside0 ((st l (i - 1)).f0 ≤ t) ∧ Aside0 (mappedPix l t = mapAt l t (l.length - i) i) ∧ Aside0 (wr.heap[w.heap.size]? = some (.cells #[.int .i64 0, .int .i64 0, .int .i64 0, .int .i64 0] 45 (0, 0))) ∧ Aside0 (Below w.heap.size w wr)) (fun a _ => l.length - (intOf a).toNat)
  case atStart => exact ⟨1, 1, rfl, rfl, by omega, by omega, HT, H0, ⟨blk_new w _⟩, ⟨below_alloc HB.out _⟩⟩
  case round =>
    clear HB H0 HT x0 y0 g0 g1 g2
    obtain ⟨i, x, rfl, hx, hi, hil, HT, H0, BK, HB⟩ := hrel
    by_cases hlt : i < l.length
    · obtain ⟨y, hy⟩ : ∃ y : Int, x - 1 = y := ⟨_, rfl⟩
      have b0 : 0 ≤ x := by omega
      have b1 : x < (l.length : Int) := by omega
      have b2 : 0 ≤ y := by omega
      have b3 : y < (l.length : Int) := by omega
      have b4 : 0 ≤ x - 1 := by omega
      have b5 : x - 1 < (l.length : Int) := by omega
      have b6 : 1 ≤ x := by omega
      obtain ⟨ad', e, x0, x1, x2, x3, x4⟩ := at_T74 HR.out x b0 b1
      obtain rfl : ad = ad' := by injection e
      obtain ⟨ad', e', y0, y1, y2, y3, y4⟩ := at_T74 HR.out y b2 b3
      obtain rfl : ad = ad' := by injection e'
      clear e e'
      have hyn : y.toNat = x.toNat - 1 := by omega
      rw [hyn] at y0 y1 y2 y3 y4
      clear hyn
      have z0 := fun o => kept (below_alloc (Below.refl _ wr) o) (kept HB.out x0)
      replace y0 := kept HB.out y0
      have z1 := fun o => kept (below_alloc (Below.refl _ wr) o) (kept HB.out x1)
      replace y1 := kept HB.out y1
      have z2 := fun o => kept (below_alloc (Below.refl _ wr) o) (kept HB.out x2)
      replace y2 := kept HB.out y2
      have z3 := fun o => kept (below_alloc (Below.refl _ wr) o) (kept HB.out x3)
      replace y3 := kept HB.out y3
      have z4 := fun o => kept (below_alloc (Below.refl _ wr) o) (kept HB.out x4)
      replace y4 := kept HB.out y4
      clear x0 x1 x2 x3 x4
      have e1 := wi (x + 1) (by omega) (by omega)
      have e2 := wi (x - 1) (by omega) (by omega)
      rw [hy] at e2
      obtain ⟨k, hk⟩ : ∃ k, l.length - i = k + 1 := ⟨l.length - i - 1, by omega⟩
      have H1 : mappedPix l t = if t < (rd_T74 l x).f0 then betweenPix (rd_T74 l y) (rd_T74 l x) t else mapAt l t k (i + 1) := by
        have := H0.out
        rw [hk] at this
        rw [this]
        rw [show mapAt l t (k + 1) i = if t < (rd_T74 l ((i : Nat) : Int)).f0 then betweenPix (rd_T74 l ((i - 1 : Nat) : Int)) (rd_T74 l ((i : Nat) : Int)) t else mapAt l t k (i + 1) from rfl]
        rw [← hx, show ((i - 1 : Nat) : Int) = y by omega]
      clear H0
      have HX := Aside0.mk hx
      have HY := Aside0.mk hy
      by_cases hq : t < (rd_T74 l x).f0
      · rw [if_pos hq] at H1
        clear hx hy
        go_wp2_with fail
        obtain ⟨v0, v1, v2, v3, hP⟩ := mixPix_agg (rd_T74 l y).f1.f0 (rd_T74 l y).f1.f1 (rd_T74 l y).f1.f2 (rd_T74 l y).f1.f3 (rd_T74 l x).f1.f0 (rd_T74 l x).f1.f1 (rd_T74 l x).f1.f2 (rd_T74 l x).f1.f3 (gapV (rd_T74 l y) (rd_T74 l x) t)
        have hV : mappedPix l t = .agg #[.int .i64 v0, .int .i64 v1, .int .i64 v2, .int .i64 v3] := by rw [H1]; exact hP
        have HV := Aside0.mk hV
        have Gx := HG.out.at0 i hlt
        have Gy := HG.out.at0 (i - 1) (by omega)
        have Ux := HG.out.col i hlt
        have Uy := HG.out.col (i - 1) (by omega)
        have ht := HT.out
        unfold st at Gx Gy Ux Uy ht
        rw [← HX.out] at Gx Ux
        rw [show ((i - 1 : Nat) : Int) = y by have := HX.out; have := HY.out; omega] at Gy Uy ht
        have hgap := gap_range (rd_T74 l y) (rd_T74 l x) t ht hq
        have H6 : Aside0 (∀ w, Qt 53 #[.int .i64 (65535 * (t - (rd_T74 l y).f0)), .int .i64 ((rd_T74 l x).f0 - (rd_T74 l y).f0)] w (.int .i64 (gapV (rd_T74 l y) (rd_T74 l x) t))) := ⟨fun w => rdivR _ _ w (by omega) (by omega) (by omega) (by omega)⟩
        have H9 : Aside0 (∀ w, Calls Try.prog 100 #[.agg #[.int .i64 (rd_T74 l y).f1.f0, .int .i64 (rd_T74 l y).f1.f1, .int .i64 (rd_T74 l y).f1.f2, .int .i64 (rd_T74 l y).f1.f3], .agg #[.int .i64 (rd_T74 l x).f1.f0, .int .i64 (rd_T74 l x).f1.f1, .int .i64 (rd_T74 l x).f1.f2, .int .i64 (rd_T74 l x).f1.f3], .int .i64 (gapV (rd_T74 l y) (rd_T74 l x) t)] w fun e w' => e = .returned (.agg #[.int .i64 v0, .int .i64 v1, .int .i64 v2, .int .i64 v3]) ∧ Below w.heap.size w w') := ⟨fun w => by rw [← hP]; exact rmix_any _ _ _ _ _ _ _ _ _ w Uy Ux hgap.1 hgap.2⟩
        have e3 := wi (t - (rd_T74 l y).f0) (by omega) (by omega)
        have e4 := wi (65535 * (t - (rd_T74 l y).f0)) (by omega) (by omega)
        have e5 := wi ((rd_T74 l x).f0 - (rd_T74 l y).f0) (by omega) (by omega)
        clear hP hV H1 Gx Gy Ux Uy ht hgap
        generalize hWW : (wr.alloc (.cells #[.int .i64 (rd_T74 l y).f0, .int .i64 (rd_T74 l y).f1.f0, .int .i64 (rd_T74 l y).f1.f1, .int .i64 (rd_T74 l y).f1.f2, .int .i64 (rd_T74 l y).f1.f3] 74)).alloc (.cells #[.int .i64 (rd_T74 l x).f0, .int .i64 (rd_T74 l x).f1.f0, .int .i64 (rd_T74 l x).f1.f1, .int .i64 (rd_T74 l x).f1.f2, .int .i64 (rd_T74 l x).f1.f3] 74) = W
        have c0 : W.cell? ⟨wr.heap.size + 1, 0, none⟩ = some (.int .i64 (rd_T74 l x).f0) := by rw [← hWW]; simp [go_sem]
        have c1 : W.cell? ⟨wr.heap.size + 1, 1, none⟩ = some (.int .i64 (rd_T74 l x).f1.f0) := by rw [← hWW]; simp [go_sem]
        have c2 : W.cell? ⟨wr.heap.size + 1, 2, none⟩ = some (.int .i64 (rd_T74 l x).f1.f1) := by rw [← hWW]; simp [go_sem]
        have c3 : W.cell? ⟨wr.heap.size + 1, 3, none⟩ = some (.int .i64 (rd_T74 l x).f1.f2) := by rw [← hWW]; simp [go_sem]
        have c4 : W.cell? ⟨wr.heap.size + 1, 4, none⟩ = some (.int .i64 (rd_T74 l x).f1.f3) := by rw [← hWW]; simp [go_sem]
        have c5 : W.cell? ⟨wr.heap.size, 0, none⟩ = some (.int .i64 (rd_T74 l y).f0) := by rw [← hWW]; simp [go_sem]
        have c6 : W.cell? ⟨wr.heap.size, 1, none⟩ = some (.int .i64 (rd_T74 l y).f1.f0) := by rw [← hWW]; simp [go_sem]
        have c7 : W.cell? ⟨wr.heap.size, 2, none⟩ = some (.int .i64 (rd_T74 l y).f1.f1) := by rw [← hWW]; simp [go_sem]
        have c8 : W.cell? ⟨wr.heap.size, 3, none⟩ = some (.int .i64 (rd_T74 l y).f1.f2) := by rw [← hWW]; simp [go_sem]
        have c9 : W.cell? ⟨wr.heap.size, 4, none⟩ = some (.int .i64 (rd_T74 l y).f1.f3) := by rw [← hWW]; simp [go_sem]
        have BK2 : Aside0 (W.heap[w.heap.size]? = some (.cells #[.int .i64 0, .int .i64 0, .int .i64 0, .int .i64 0] 45 (0, 0))) := ⟨by rw [← hWW]; exact blk_alloc (blk_alloc BK.out _) _⟩
        have HB2 : Aside0 (Below w.heap.size w W) := ⟨by rw [← hWW]; exact below_alloc (below_alloc HB.out _) _⟩
        have hlt2 := blk_lt BK.out
        clear hWW BK HB z0 z1 z2 z3 z4 y0 y1 y2 y3 y4
        go_region_held3 (fun w' => w'.cell? ⟨wr.heap.size + 1, 0, none⟩ = some (.int .i64 (rd_T74 l x).f0) ∧ w'.cell? ⟨wr.heap.size + 1, 1, none⟩ = some (.int .i64 (rd_T74 l x).f1.f0) ∧ w'.cell? ⟨wr.heap.size + 1, 2, none⟩ = some (.int .i64 (rd_T74 l x).f1.f1) ∧ w'.cell? ⟨wr.heap.size + 1, 3, none⟩ = some (.int .i64 (rd_T74 l x).f1.f2) ∧ w'.cell? ⟨wr.heap.size + 1, 4, none⟩ = some (.int .i64 (rd_T74 l x).f1.f3) ∧ w'.cell? ⟨wr.heap.size, 0, none⟩ = some (.int .i64 (rd_T74 l y).f0) ∧ w'.cell? ⟨wr.heap.size, 1, none⟩ = some (.int .i64 (rd_T74 l y).f1.f0) ∧ w'.cell? ⟨wr.heap.size, 2, none⟩ = some (.int .i64 (rd_T74 l y).f1.f1) ∧ w'.cell? ⟨wr.heap.size, 3, none⟩ = some (.int .i64 (rd_T74 l y).f1.f2) ∧ w'.cell? ⟨wr.heap.size, 4, none⟩ = some (.int .i64 (rd_T74 l y).f1.f3))
          (with_reducible (first | exact ⟨kept hb (by assumption), kept hb (by assumption), kept hb (by assumption), kept hb (by assumption), kept hb (by assumption), kept hb (by assumption), kept hb (by assumption), kept hb (by assumption), kept hb (by assumption), kept hb (by assumption)⟩ | (go_split_ands; exact ⟨kept hb (by assumption), kept hb (by assumption), kept hb (by assumption), kept hb (by assumption), kept hb (by assumption), kept hb (by assumption), kept hb (by assumption), kept hb (by assumption), kept hb (by assumption), kept hb (by assumption)⟩) | (refine ⟨?_, ?_, ?_, ?_, ?_, ?_, ?_, ?_, ?_, ?_⟩ <;> first | (simp only [World.cell?_drew, World.cell?_drewN]; assumption) | (refine far4 (by dsimp only; omega) ?_; assumption))))
          ((first | (go_at_call 53; refine (H6.out _).mono ?_; rintro e w' ⟨rfl, mm, rfl⟩) | (go_at_call 100; refine (H9.out _).mono ?_; rintro e w' ⟨rfl, hb⟩; have s0 : w'.cell? ⟨wr.heap.size + 1, 0, none⟩ = some (.int .i64 (rd_T74 l x).f0) := kept hb (by (simp only [World.cell?_drewN]; exact c0)); have s1 : w'.cell? ⟨wr.heap.size + 1, 1, none⟩ = some (.int .i64 (rd_T74 l x).f1.f0) := kept hb (by (simp only [World.cell?_drewN]; exact c1)); have s2 : w'.cell? ⟨wr.heap.size + 1, 2, none⟩ = some (.int .i64 (rd_T74 l x).f1.f1) := kept hb (by (simp only [World.cell?_drewN]; exact c2)); have s3 : w'.cell? ⟨wr.heap.size + 1, 3, none⟩ = some (.int .i64 (rd_T74 l x).f1.f2) := kept hb (by (simp only [World.cell?_drewN]; exact c3)); have s4 : w'.cell? ⟨wr.heap.size + 1, 4, none⟩ = some (.int .i64 (rd_T74 l x).f1.f3) := kept hb (by (simp only [World.cell?_drewN]; exact c4)); have s5 : w'.cell? ⟨wr.heap.size, 0, none⟩ = some (.int .i64 (rd_T74 l y).f0) := kept hb (by (simp only [World.cell?_drewN]; exact c5)); have s6 : w'.cell? ⟨wr.heap.size, 1, none⟩ = some (.int .i64 (rd_T74 l y).f1.f0) := kept hb (by (simp only [World.cell?_drewN]; exact c6)); have s7 : w'.cell? ⟨wr.heap.size, 2, none⟩ = some (.int .i64 (rd_T74 l y).f1.f1) := kept hb (by (simp only [World.cell?_drewN]; exact c7)); have s8 : w'.cell? ⟨wr.heap.size, 3, none⟩ = some (.int .i64 (rd_T74 l y).f1.f2) := kept hb (by (simp only [World.cell?_drewN]; exact c8)); have s9 : w'.cell? ⟨wr.heap.size, 4, none⟩ = some (.int .i64 (rd_T74 l y).f1.f3) := kept hb (by (simp only [World.cell?_drewN]; exact c9)); have BK3 : Aside0 (w'.heap[w.heap.size]? = some (.cells #[.int .i64 0, .int .i64 0, .int .i64 0, .int .i64 0] 45 (0, 0))) := ⟨blk_below (by (with_reducible repeat (first | refine blk_drewN ?_ _ | refine blk_drew ?_)); exact BK2.out) hb⟩; have HB3 : Aside0 (Below w.heap.size w w') := ⟨step (by (with_reducible repeat (first | refine pw_below_drewN ?_ _ | refine below_drew1 ?_)); exact HB2.out) hb⟩; have hz0 : w'.cell? ⟨w.heap.size, 0, none⟩ = some (.int .i64 0) := (blk_cell BK3.out 0).trans rfl; have hz1 : w'.cell? ⟨w.heap.size, 1, none⟩ = some (.int .i64 0) := (blk_cell BK3.out 1).trans rfl; have hz2 : w'.cell? ⟨w.heap.size, 2, none⟩ = some (.int .i64 0) := (blk_cell BK3.out 2).trans rfl; have hz3 : w'.cell? ⟨w.heap.size, 3, none⟩ = some (.int .i64 0) := (blk_cell BK3.out 3).trans rfl; have hf0 := blk_frozen BK3.out 0; have hf1 := blk_frozen BK3.out 1; have hf2 := blk_frozen BK3.out 2; have hf3 := blk_frozen BK3.out 3)))
        go_wp2
        refine bodyPost_ret (v := .agg #[.int .i64 v0, .int .i64 v1, .int .i64 v2, .int .i64 v3]) (by simp [results, Try.results91, go_sem, hz0, hz1, hz2, hz3]) rfl ⟨by rw [HV.out], ?_⟩
        repeat (first | exact HB3.out | refine below_set ?_ (Nat.le_refl _))
      · rw [if_neg hq] at H1
        have hq2 : (st l (i + 1 - 1)).f0 ≤ t := by
          have : rd_T74 l ((i + 1 - 1 : Nat) : Int) = rd_T74 l x := by rw [hx]; rfl
          unfold st
          rw [this]
          omega
        have HQ := Aside0.mk hq2
        have HH := Aside0.mk H1
        clear hq2 H1 hx hy
        go_wp2
        go_roundw
        case rel => exact ⟨i + 1, x + 1, rfl, by have := HX.out; omega, by omega, by omega, HQ, ⟨by rw [HH.out, show l.length - (i + 1) = k by omega]⟩, ⟨blk_alloc (blk_alloc BK.out _) _⟩, ⟨below_alloc (below_alloc HB.out _) _⟩⟩
        case measure => have := HX.out; simp [intOf]; omega
    · obtain rfl : i = l.length := by omega
      have b4 : (0 : Int) ≤ (l.length : Int) - 1 := by omega
      have b5 : (l.length : Int) - 1 < (l.length : Int) := by omega
      have b6 : 1 ≤ l.length := hl
      have b7 : ¬ x < (l.length : Int) := by omega
      obtain ⟨ad', e, x0, x1, x2, x3, x4⟩ := at_T74 HR.out ((l.length : Int) - 1) b4 b5
      obtain rfl : ad = ad' := by injection e
      have hyn : ((l.length : Int) - 1).toNat = l.length - 1 := by omega
      rw [hyn] at x0 x1 x2 x3 x4
      clear e hyn
      replace x1 := kept HB.out x1
      replace x2 := kept HB.out x2
      replace x3 := kept HB.out x3
      replace x4 := kept HB.out x4
      have HV : Aside0 (mappedPix l t = colV (rd_T74 l ((l.length : Int) - 1))) := ⟨by
        rw [H0.out, Nat.sub_self, show ((l.length : Int) - 1) = ((l.length - 1 : Nat) : Int) by omega]
        rfl⟩
      have hz0 : wr.cell? ⟨w.heap.size, 0, none⟩ = some (.int .i64 0) := (blk_cell BK.out 0).trans rfl
      have hz1 : wr.cell? ⟨w.heap.size, 1, none⟩ = some (.int .i64 0) := (blk_cell BK.out 1).trans rfl
      have hz2 : wr.cell? ⟨w.heap.size, 2, none⟩ = some (.int .i64 0) := (blk_cell BK.out 2).trans rfl
      have hz3 : wr.cell? ⟨w.heap.size, 3, none⟩ = some (.int .i64 0) := (blk_cell BK.out 3).trans rfl
      have hf0 := blk_frozen BK.out 0
      have hf1 := blk_frozen BK.out 1
      have hf2 := blk_frozen BK.out 2
      have hf3 := blk_frozen BK.out 3
      clear hx hlt H0 x0 BK
      go_wp2_with fail
      refine bodyPost_ret (v := colV (rd_T74 l ((l.length : Int) - 1))) (by simp [results, Try.results91, go_sem, colV, hz0, hz1, hz2, hz3]) rfl ⟨by rw [HV.out], ?_⟩
      repeat (first | exact HB.out | refine below_set ?_ (Nat.le_refl _))

theorem rmapped_any (A0 : Option Addr) (cap : Nat) (l : List S74) (t : Int) (w : World) (hr : Kd.C k74 w A0 l.length l) (hc : l.length ≤ cap) (G : GoodStops l) (t1 : t ≤ 65535) :
    Calls Try.prog 91 #[.slice A0 l.length cap, .int .i64 t] w fun e w' => e = .returned (mappedPix l t) ∧ Below w.heap.size w w' := by
  have hl := G.one
  obtain ⟨ad, rfl, _⟩ := at_T74 hr 0 (by omega) (by omega)
  by_cases ht : t ≤ (st l 0).f0
  · have e : mappedPix l t = colV (st l 0) := by unfold mappedPix; rw [if_pos ht]
    rw [e]
    exact rmapped_first ad cap l t w hr hc hl ht
  · exact rmapped_later ad cap l t w hr hc G ht t1
end Go.Proofs.Ytmgpmpiondciiaa.Adj
