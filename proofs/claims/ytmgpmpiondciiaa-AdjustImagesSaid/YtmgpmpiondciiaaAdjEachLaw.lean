/- imageeditorlaw17.same and AdjustEach answer true. No condition but that the slices lie in memory. -/
import Derived.Test.YtmgpmpiondciiaaAdjImg
import Derived.Test.YtmgpmpiondciiaaAdjAwake
namespace Go.Proofs.Ytmgpmpiondciiaa.Adj
open Go.RowKit Go.Proofs.Ytmgpmpiondciiaa.PAdjustImages Go.Proofs.YtmgpmpiondciiaaW.PrintWords Go.Proofs.YtmgpmpiondciiaaW.PrintMore Go.Proofs.Ytmgpmpiondciiaa.Plain
set_option maxRecDepth 100000 in
set_option maxHeartbeats 16000000 in
theorem same_any (X Y : Int) (A B : Option Addr) (ca cb : Nat) (l : List S45) (w : World) (hr : Kd.C k45 w A l.length l) (hq : Kd.C k45 w B l.length l) :
    Calls Try.prog 35 #[.agg #[.int .i64 X, .int .i64 Y, .slice A l.length ca], .agg #[.int .i64 X, .int .i64 Y, .slice B l.length cb]] w fun e w' => e = .returned (.bool true) ∧ Below w.heap.size w w' := by
  have HR := Aside0.mk hr
  have HQ := Aside0.mk hq
  have hm : l.length ≤ 9223372036854775807 := hr.2.1
  clear hr hq
  go_enter Try.func35, Try.ntmps35
  go_wp2_with fail
  generalize hW : (w.alloc (.cells #[.int .i64 X, .int .i64 Y, .slice A l.length ca] 36)).alloc (.cells #[.int .i64 X, .int .i64 Y, .slice B l.length cb] 36) = W
  obtain ⟨X0, X1, XB⟩ := two _ _ _ _ hW
  have Y0 := Aside0.mk X0
  have Y1 := Aside0.mk X1
  have YB := Aside0.mk XB
  clear hW X0 X1 XB
  go_loopw [30] (fun a wr => ∃ (i : Nat) (x : Int), a = .int .i64 x ∧ x = i ∧ i ≤ l.length ∧ Aside0 (wr.heap[w.heap.size]? = some (.cells #[.int .i64 X, .int .i64 Y, .slice A l.length ca] 36 (0, 0))) ∧ Aside0 (wr.heap[w.heap.size + 1]? = some (.cells #[.int .i64 X, .int .i64 Y, .slice B l.length cb] 36 (0, 0))) ∧ Aside0 (Below w.heap.size w wr)) (fun a _ => l.length - (intOf a).toNat)
  case atStart => exact ⟨0, 0, rfl, rfl, by omega, Y0, Y1, YB⟩
  case round =>
    clear Y0 Y1 YB
    obtain ⟨i, x, rfl, hx, hi, Y0, Y1, YB⟩ := hrel
    by_cases hlt : i < l.length
    · have b0 : 0 ≤ x := by omega
      have b1 : x < (l.length : Int) := by omega
      obtain ⟨ad, ea, x0, x1, x2, x3⟩ := at_T45 HR.out x b0 b1
      obtain ⟨bd, eb, y0, y1, y2, y3⟩ := at_T45 HQ.out x b0 b1
      replace x0 := kept YB.out x0
      replace x1 := kept YB.out x1
      replace x2 := kept YB.out x2
      replace x3 := kept YB.out x3
      replace y0 := kept YB.out y0
      replace y1 := kept YB.out y1
      replace y2 := kept YB.out y2
      replace y3 := kept YB.out y3
      have e1 := wi (x + 1) (by omega) (by omega)
      have HX := Aside0.mk hx
      have c0 : wr.cell? ⟨w.heap.size, 2, none⟩ = some (.slice A l.length ca) := (blk_cell Y0.out 2).trans rfl
      have c1 : wr.cell? ⟨w.heap.size + 1, 2, none⟩ = some (.slice B l.length cb) := (blk_cell Y1.out 2).trans rfl
      clear hx hi
      subst ea
      subst eb
      go_wp2
      go_region
      go_wp2
      go_roundw
      case rel => exact ⟨i + 1, x + 1, rfl, by have := HX.out; omega, by omega, Y0, Y1, ⟨by with_reducible repeat (first | exact YB.out | refine below_drew1 ?_ | refine pw_below_drewN ?_ _)⟩⟩
      case measure => have := HX.out; simp [intOf]; omega
    · have b7 : ¬ x < (l.length : Int) := by omega
      clear hx hlt
      go_wp2
      go_ret
      exact ⟨rfl, YB.out⟩
set_option maxRecDepth 100000 in
set_option maxHeartbeats 16000000 in
theorem each_err (k : Int) (P : Option Addr) (n cp : Nat) (S : Option Addr) (m cs : Nat) (X Y : Int) (A : Option Addr) (ca : Nat) (p : List S45) (e0 : Int) (w : World) (hr : Kd.C k45 w A p.length p) (h : (e0 == 0) = false)
    (HI : Aside0 (∀ w1, Below w.heap.size w w1 → Calls Try.prog 32 #[.int .i64 k, .slice P n cp, .slice S m cs, .agg #[.int .i64 X, .int .i64 Y, .slice A p.length ca]] w1 fun e w' => ∃ B cb, e = .returned (.tuple #[.agg #[.int .i64 0, .int .i64 0, .slice B 0 cb], .int .i64 e0]) ∧ Kd.C k45 w' B 0 [] ∧ Below w1.heap.size w1 w')) :
    Calls Try.prog 9 #[.int .i64 k, .slice P n cp, .slice S m cs, .agg #[.int .i64 X, .int .i64 Y, .slice A p.length ca]] w fun e w' => e = .returned (.bool true) ∧ Below w.heap.size w w' := by
  have _ := hr
  clear hr
  go_enter Try.func9, Try.ntmps9
  go_wp2_with fail
  have X0 := blk_new w (.cells #[.int .i64 X, .int .i64 Y, .slice A p.length ca] 36)
  have XB := below_alloc (Below.refl w.heap.size w) (.cells #[.int .i64 X, .int .i64 Y, .slice A p.length ca] 36)
  refine (HI.out _ XB).mono ?_
  rintro e w1 ⟨B, cb, rfl, hB, hb⟩
  have YB := step XB hb
  have HB := Aside0.mk hB
  clear X0 XB hb hB
  dsimp only
  go_wp2_with fail
  have Z0 := blk_new w1 (.cells #[.int .i64 0, .int .i64 0, .slice B 0 cb] 36)
  have ZB := below_alloc YB (.cells #[.int .i64 0, .int .i64 0, .slice B 0 cb] 36)
  have ZC := Kd.C_below HB.out (below_alloc (Below.refl _ w1) (.cells #[.int .i64 0, .int .i64 0, .slice B 0 cb] 36))
  refine (awake_any _).mono ?_
  rintro e w2 ⟨rfl, hb⟩
  have V0 := blk_below Z0 hb
  have VB := step ZB hb
  have VC := Kd.C_below ZC hb
  clear Z0 ZB ZC hb HB YB
  dsimp only
  go_wp2_with fail
  refine (awake_any _).mono ?_
  rintro e w3 ⟨rfl, hb⟩
  have U0 := blk_below V0 hb
  have UB := Aside0.mk (step VB hb)
  have UC := Aside0.mk (Kd.C_below VC hb)
  clear V0 VB VC hb
  have t0 : w3.cell? ⟨w1.heap.size, 0, none⟩ = some (.int .i64 0) := (blk_cell U0 0).trans rfl
  have t1 : w3.cell? ⟨w1.heap.size, 1, none⟩ = some (.int .i64 0) := (blk_cell U0 1).trans rfl
  have t2 : w3.cell? ⟨w1.heap.size, 2, none⟩ = some (.slice B 0 cb) := (blk_cell U0 2).trans rfl
  dsimp only
  go_wp2_with fail
  refine (same_any 0 0 B none cb 0 [] _ UC.out (C45_nil _)).mono ?_
  rintro e w4 ⟨rfl, hb⟩
  have TB := Aside0.mk (step UB.out hb)
  clear U0 UB UC hb t0 t1 t2
  dsimp only
  go_wp2
  go_ret
  exact ⟨rfl, TB.out⟩
set_option maxRecDepth 100000 in
set_option maxHeartbeats 16000000 in
theorem each_ok (k : Int) (P : Option Addr) (n cp : Nat) (S : Option Addr) (m cs : Nat) (X Y : Int) (A : Option Addr) (ca : Nat) (p : List S45) (q : List S45) (w : World) (hr : Kd.C k45 w A p.length p) (hq : q.length = p.length)
    (HI : Aside0 (∀ w1, Below w.heap.size w w1 → Calls Try.prog 32 #[.int .i64 k, .slice P n cp, .slice S m cs, .agg #[.int .i64 X, .int .i64 Y, .slice A p.length ca]] w1 fun e w' => ∃ B cb, e = .returned (.tuple #[.agg #[.int .i64 X, .int .i64 Y, .slice B p.length cb], .int .i64 0]) ∧ Kd.C k45 w' B p.length q ∧ Below w1.heap.size w1 w'))
    (HP : Aside0 (∀ (i : Nat) (w1 : World), i < p.length → Below w.heap.size w w1 → Calls Try.prog 36 #[.int .i64 k, .slice P n cp, .slice S m cs, .agg #[.int .i64 (px p i).f0, .int .i64 (px p i).f1, .int .i64 (px p i).f2, .int .i64 (px p i).f3]] w1 fun e w' => e = .returned (.tuple #[.agg #[.int .i64 (px q i).f0, .int .i64 (px q i).f1, .int .i64 (px q i).f2, .int .i64 (px q i).f3], .int .i64 0]) ∧ Below w1.heap.size w1 w')) :
    Calls Try.prog 9 #[.int .i64 k, .slice P n cp, .slice S m cs, .agg #[.int .i64 X, .int .i64 Y, .slice A p.length ca]] w fun e w' => e = .returned (.bool true) ∧ Below w.heap.size w w' := by
  have _ := hq
  have HR := Aside0.mk hr
  have hm : p.length ≤ 9223372036854775807 := hr.2.1
  clear hr
  go_enter Try.func9, Try.ntmps9
  go_wp2_with fail
  have X0 := blk_new w (.cells #[.int .i64 X, .int .i64 Y, .slice A p.length ca] 36)
  have XB := below_alloc (Below.refl w.heap.size w) (.cells #[.int .i64 X, .int .i64 Y, .slice A p.length ca] 36)
  refine (HI.out _ XB).mono ?_
  rintro e w1 ⟨B, cb, rfl, hB, hb⟩
  have Y0 := blk_below X0 hb
  have YB := step XB hb
  have HB := Aside0.mk hB
  clear X0 XB hb hB
  dsimp only
  go_wp2_with fail
  have Z0 := blk_alloc Y0 (.cells #[.int .i64 X, .int .i64 Y, .slice B p.length cb] 36)
  have Z1 := blk_new w1 (.cells #[.int .i64 X, .int .i64 Y, .slice B p.length cb] 36)
  have ZB := below_alloc YB (.cells #[.int .i64 X, .int .i64 Y, .slice B p.length cb] 36)
  have ZC := Kd.C_below HB.out (below_alloc (Below.refl _ w1) (.cells #[.int .i64 X, .int .i64 Y, .slice B p.length cb] 36))
  have L1 := blk_lt Y0
  refine (awake_any _).mono ?_
  rintro e w2 ⟨rfl, hb⟩
  have V0 := Aside0.mk (blk_below Z0 hb)
  have V1 := Aside0.mk (blk_below Z1 hb)
  have VB := Aside0.mk (step ZB hb)
  have VC := Aside0.mk (Kd.C_below ZC hb)
  clear Y0 YB HB Z0 Z1 ZB ZC hb
  have t0 : w2.cell? ⟨w.heap.size, 0, none⟩ = some (.int .i64 X) := (blk_cell V0.out 0).trans rfl
  have t1 : w2.cell? ⟨w.heap.size, 1, none⟩ = some (.int .i64 Y) := (blk_cell V0.out 1).trans rfl
  have t2 : w2.cell? ⟨w.heap.size, 2, none⟩ = some (.slice A p.length ca) := (blk_cell V0.out 2).trans rfl
  have u0 : w2.cell? ⟨w1.heap.size, 0, none⟩ = some (.int .i64 X) := (blk_cell V1.out 0).trans rfl
  have u1 : w2.cell? ⟨w1.heap.size, 1, none⟩ = some (.int .i64 Y) := (blk_cell V1.out 1).trans rfl
  have u2 : w2.cell? ⟨w1.heap.size, 2, none⟩ = some (.slice B p.length cb) := (blk_cell V1.out 2).trans rfl
  dsimp only
  go_wp2
  clear t0 t1 t2 u0 u1 u2
  go_loopw [59] (fun a wr => ∃ (i : Nat) (x : Int), a = .int .i64 x ∧ x = i ∧ i ≤ p.length ∧ Aside0 (wr.heap[w.heap.size]? = some (.cells #[.int .i64 X, .int .i64 Y, .slice A p.length ca] 36 (0, 0))) ∧ Aside0 (wr.heap[w1.heap.size]? = some (.cells #[.int .i64 X, .int .i64 Y, .slice B p.length cb] 36 (0, 0))) ∧ Aside0 (Kd.C k45 wr B p.length q) ∧ Aside0 (Below w.heap.size w wr)) (fun a _ => p.length - (intOf a).toNat)
  case atStart => exact ⟨0, 0, rfl, rfl, by omega, V0, V1, VC, VB⟩
  case round =>
    clear V0 V1 VC VB
    obtain ⟨i, x, rfl, hx, hi, V0, V1, VC, VB⟩ := hrel
    by_cases hlt : i < p.length
    · have b0 : 0 ≤ x := by omega
      have b1 : x < (p.length : Int) := by omega
      obtain ⟨ad, ea, x0, x1, x2, x3⟩ := at_T45 HR.out x b0 b1
      replace x0 := kept VB.out x0
      replace x1 := kept VB.out x1
      replace x2 := kept VB.out x2
      replace x3 := kept VB.out x3
      have e1 := wi (x + 1) (by omega) (by omega)
      have HX := Aside0.mk hx
      have HI2 := HP.out i
      rw [show px p i = rd_T45 p x by rw [hx], show px q i = rd_T45 q x by rw [hx]] at HI2
      have HI3 := Aside0.mk (fun w1 hb => HI2 w1 hlt hb)
      clear hx HI2
      subst ea
      go_wp2_with fail
      refine (HI3.out _ (below_alloc VB.out _)).mono ?_
      rintro e wB ⟨rfl, hb⟩
      have hb2 := step (below_alloc (Below.refl _ wr) _) hb
      have hb3 := step hb2 (below_alloc (Below.refl _ wB) (.cells #[.int .i64 (rd_T45 q x).f0, .int .i64 (rd_T45 q x).f1, .int .i64 (rd_T45 q x).f2, .int .i64 (rd_T45 q x).f3] 45))
      have T0 := Aside0.mk (blk_below V0.out hb3)
      have T1 := Aside0.mk (blk_below V1.out hb3)
      have TC := Aside0.mk (Kd.C_below VC.out hb3)
      have TB := Aside0.mk (step VB.out hb3)
      have c1 := fun o => kept (below_alloc (Below.refl _ wB) o) ((blk_cell (blk_below V1.out hb2) 2).trans rfl : wB.cell? ⟨w1.heap.size, 2, none⟩ = some (.slice B p.length cb))
      obtain ⟨bd, eb, y0, y1, y2, y3⟩ := at_T45 (Kd.C_below VC.out hb2) x b0 b1
      replace y0 := fun o => kept (below_alloc (Below.refl _ wB) o) y0
      replace y1 := fun o => kept (below_alloc (Below.refl _ wB) o) y1
      replace y2 := fun o => kept (below_alloc (Below.refl _ wB) o) y2
      replace y3 := fun o => kept (below_alloc (Below.refl _ wB) o) y3
      clear hb hb2 hb3 V0 V1 VC VB x0 x1 x2 x3 HI3
      subst eb
      dsimp only
      go_wp2
      first | (go_region; go_wp2) | skip
      go_roundw
      case rel => exact ⟨i + 1, x + 1, rfl, by have := HX.out; omega, by omega, T0, T1, ⟨by with_reducible first | exact TC.out | exact Kd.C_below TC.out (below_drew (Below.refl _ _))⟩, ⟨by with_reducible repeat (first | exact TB.out | refine below_drew1 ?_ | refine pw_below_drewN ?_ _)⟩⟩
      case measure => have := HX.out; simp [intOf]; omega
    · have b7 : ¬ x < (p.length : Int) := by omega
      clear hx hlt
      go_wp2
      go_ret
      exact ⟨rfl, VB.out⟩
theorem eachlaw_any (k : Int) (P : Option Addr) (cp : Nat) (l : List Int) (S : Option Addr) (cs : Nat) (s : List S74) (X Y : Int) (A : Option Addr) (ca : Nat) (p : List S45) (w : World) (hp : Ints w P l) (hcp : l.length ≤ cp) (hs : Kd.C k74 w S s.length s) (hcs : s.length ≤ cs) (hr : Kd.C k45 w A p.length p) (hc : p.length ≤ ca) :
    Calls Try.prog 9 #[.int .i64 k, .slice P l.length cp, .slice S s.length cs, .agg #[.int .i64 X, .int .i64 Y, .slice A p.length ca]] w fun e w' => e = .returned (.bool true) ∧ Below w.heap.size w w' := by
  have HI := fun w1 (hb : Below w.heap.size w w1) => image_any k P cp l S cs s X Y A ca p w1 (hp.below hb) hcp (Kd.C_below hs hb) hcs (Kd.C_below hr hb) hc
  have HP := fun (i : Nat) w1 (hb : Below w.heap.size w w1) => pixel_any k P cp l S cs s (px p i).f0 (px p i).f1 (px p i).f2 (px p i).f3 w1 (hp.below hb) hcp (Kd.C_below hs hb) hcs
  by_cases he : imgErr k l s X Y p = 0
  · have hch : checkV k l s = 0 := by
      unfold imgErr at he
      by_cases h : checkV k l s = 0
      · exact h
      · rw [if_neg h] at he
        exact he
    have hras : rasV X Y p = 0 := by
      unfold imgErr at he
      rwa [if_pos hch] at he
    have e1 : imgW k l s X Y p = X := by unfold imgW; rw [if_pos he]
    have e2 : imgH k l s X Y p = Y := by unfold imgH; rw [if_pos he]
    have e3 : imgPix k l s X Y p = p.map fun q => appPix k l s q.f0 q.f1 q.f2 q.f3 := by unfold imgPix; rw [if_pos he]
    rw [e1, e2, e3, he, List.length_map] at HI
    refine each_ok k P l.length cp S s.length cs X Y A ca p (p.map fun q => appPix k l s q.f0 q.f1 q.f2 q.f3) w hr (List.length_map ..) ⟨fun w1 hb => (HI w1 hb).mono fun e w' ⟨B, cb, h1, _, h3, h4⟩ => ⟨B, cb, h1, h3, h4⟩⟩ ⟨fun i w1 hi hb => ?_⟩
    have hv := (ras_zero hras).2 i hi
    have hpe : pixErr k l s (px p i).f0 (px p i).f1 (px p i).f2 (px p i).f3 = 0 := by unfold pixErr; rw [if_pos hch, if_pos hv]
    have hpa : pixAns k l s (px p i).f0 (px p i).f1 (px p i).f2 (px p i).f3 = appPix k l s (px p i).f0 (px p i).f1 (px p i).f2 (px p i).f3 := by unfold pixAns; rw [if_pos hpe]
    have h := HP i w1 hb
    rw [hpe, hpa] at h
    have hq : px (p.map fun q => appPix k l s q.f0 q.f1 q.f2 q.f3) i = appPix k l s (px p i).f0 (px p i).f1 (px p i).f2 (px p i).f3 := by
      simp [rd_T45, List.getD_eq_getElem?_getD, List.getElem?_eq_getElem hi]
    rw [hq]
    exact h
  · have e1 : imgW k l s X Y p = 0 := by unfold imgW; rw [if_neg he]
    have e2 : imgH k l s X Y p = 0 := by unfold imgH; rw [if_neg he]
    have e3 : imgPix k l s X Y p = [] := by unfold imgPix; rw [if_neg he]
    rw [e1, e2, e3] at HI
    exact each_err k P l.length cp S s.length cs X Y A ca p (imgErr k l s X Y p) w hr (by simpa using he) ⟨fun w1 hb => (HI w1 hb).mono fun e w' ⟨B, cb, h1, _, h3, h4⟩ => ⟨B, cb, h1, h3, h4⟩⟩
end Go.Proofs.Ytmgpmpiondciiaa.Adj
