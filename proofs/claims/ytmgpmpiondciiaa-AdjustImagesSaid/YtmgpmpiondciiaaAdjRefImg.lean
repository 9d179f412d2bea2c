/- The reference's Check of an image and its Image as contracts. No condition but those of each theorem. -/
import Derived.Test.YtmgpmpiondciiaaAdjImg
import Derived.Test.YtmgpmpiondciiaaAdjRefPx
namespace Go.Proofs.Ytmgpmpiondciiaa.Adj
open Go.RowKit Go.Proofs.Ytmgpmpiondciiaa.PAdjustImages Go.Proofs.YtmgpmpiondciiaaW.PrintWords Go.Proofs.YtmgpmpiondciiaaW.PrintMore Go.Proofs.Ytmgpmpiondciiaa.Plain
set_option maxRecDepth 100000 in
set_option maxHeartbeats 16000000 in
theorem rras_s0 (X Y : Int) (A : Option Addr) (ca : Nat) (l : List S45) (w : World) (h0 : decide (X < 0) = true) :
    Calls Try.prog 56 #[.agg #[.int .i64 X, .int .i64 Y, .slice A l.length ca]] w fun e w' => e = .returned (.int .i64 15) ∧ Below w.heap.size w w' := by
  go_enter Try.func56, Try.ntmps56
  go_wp2
  go_ret
  exact ⟨rfl, below_alloc (Below.refl _ _) _⟩
set_option maxRecDepth 100000 in
set_option maxHeartbeats 16000000 in
theorem rras_s1 (X Y : Int) (A : Option Addr) (ca : Nat) (l : List S45) (w : World) (h0 : decide (X < 0) = false) (h1 : decide (256 < X) = true) :
    Calls Try.prog 56 #[.agg #[.int .i64 X, .int .i64 Y, .slice A l.length ca]] w fun e w' => e = .returned (.int .i64 15) ∧ Below w.heap.size w w' := by
  go_enter Try.func56, Try.ntmps56
  go_wp2
  go_ret
  exact ⟨rfl, below_alloc (Below.refl _ _) _⟩
set_option maxRecDepth 100000 in
set_option maxHeartbeats 16000000 in
theorem rras_s2 (X Y : Int) (A : Option Addr) (ca : Nat) (l : List S45) (w : World) (h0 : decide (X < 0) = false) (h1 : decide (256 < X) = false) (h2 : decide (Y < 0) = true) :
    Calls Try.prog 56 #[.agg #[.int .i64 X, .int .i64 Y, .slice A l.length ca]] w fun e w' => e = .returned (.int .i64 15) ∧ Below w.heap.size w w' := by
  go_enter Try.func56, Try.ntmps56
  go_wp2
  go_ret
  exact ⟨rfl, below_alloc (Below.refl _ _) _⟩
set_option maxRecDepth 100000 in
set_option maxHeartbeats 16000000 in
theorem rras_s3 (X Y : Int) (A : Option Addr) (ca : Nat) (l : List S45) (w : World) (h0 : decide (X < 0) = false) (h1 : decide (256 < X) = false) (h2 : decide (Y < 0) = false) (h3 : decide (256 < Y) = true) :
    Calls Try.prog 56 #[.agg #[.int .i64 X, .int .i64 Y, .slice A l.length ca]] w fun e w' => e = .returned (.int .i64 15) ∧ Below w.heap.size w w' := by
  go_enter Try.func56, Try.ntmps56
  go_wp2
  go_ret
  exact ⟨rfl, below_alloc (Below.refl _ _) _⟩
set_option maxRecDepth 100000 in
set_option maxHeartbeats 16000000 in
theorem rras_z (X Y : Int) (A : Option Addr) (ca : Nat) (l : List S45) (w : World) (h0 : decide (X < 0) = false) (h1 : decide (256 < X) = false) (h2 : decide (Y < 0) = false) (h3 : decide (256 < Y) = false) (h4 : (X == 0) = true) (h5 : (Y == 0) = false) :
    Calls Try.prog 56 #[.agg #[.int .i64 X, .int .i64 Y, .slice A l.length ca]] w fun e w' => e = .returned (.int .i64 15) ∧ Below w.heap.size w w' := by
  go_enter Try.func56, Try.ntmps56
  go_wp2
  go_ret
  exact ⟨rfl, below_alloc (Below.refl _ _) _⟩
set_option maxRecDepth 100000 in
set_option maxHeartbeats 16000000 in
theorem rras_y (X Y : Int) (A : Option Addr) (ca : Nat) (l : List S45) (w : World) (h0 : decide (X < 0) = false) (h1 : decide (256 < X) = false) (h2 : decide (Y < 0) = false) (h3 : decide (256 < Y) = false) (h4 : (X == 0) = false) (h5 : (Y == 0) = true) :
    Calls Try.prog 56 #[.agg #[.int .i64 X, .int .i64 Y, .slice A l.length ca]] w fun e w' => e = .returned (.int .i64 15) ∧ Below w.heap.size w w' := by
  go_enter Try.func56, Try.ntmps56
  go_wp2
  go_ret
  exact ⟨rfl, below_alloc (Below.refl _ _) _⟩
set_option maxRecDepth 100000 in
set_option maxHeartbeats 16000000 in
theorem rras_n (X Y : Int) (A : Option Addr) (ca : Nat) (l : List S45) (w : World) (h0 : decide (X < 0) = false) (h1 : decide (256 < X) = false) (h2 : decide (Y < 0) = false) (h3 : decide (256 < Y) = false) (b : Bool) (h4 : (X == 0) = b) (h5 : (Y == 0) = b) (e1 : IntKind.i64.wrap (X * Y) = X * Y) (h6 : ((l.length : Int) == X * Y) = false) :
    Calls Try.prog 56 #[.agg #[.int .i64 X, .int .i64 Y, .slice A l.length ca]] w fun e w' => e = .returned (.int .i64 15) ∧ Below w.heap.size w w' := by
  go_enter Try.func56, Try.ntmps56
  go_wp2
  go_ret
  exact ⟨rfl, below_alloc (Below.refl _ _) _⟩
set_option maxRecDepth 100000 in
set_option maxHeartbeats 16000000 in
theorem rras_l (X Y : Int) (A : Option Addr) (ca : Nat) (l : List S45) (w : World) (h0 : decide (X < 0) = false) (h1 : decide (256 < X) = false) (h2 : decide (Y < 0) = false) (h3 : decide (256 < Y) = false) (b : Bool) (h4 : (X == 0) = b) (h5 : (Y == 0) = b) (e1 : IntKind.i64.wrap (X * Y) = X * Y) (h6 : ((l.length : Int) == X * Y) = true) (hr : Kd.C k45 w A l.length l) (hs : l.length ≤ 65536) (v : Int) (hv : v = if OkPix l then 0 else 2) :
    Calls Try.prog 56 #[.agg #[.int .i64 X, .int .i64 Y, .slice A l.length ca]] w fun e w' => e = .returned (.int .i64 v) ∧ Below w.heap.size w w' := by
  go_enter Try.func56, Try.ntmps56
  go_wp2
  have HR := Aside0.mk hr
  have HE := Aside0.mk hv
  clear hr hv
  go_loopw [3] (fun a wr => ∃ (i : Nat) (x : Int), a = .int .i64 x ∧ x = i ∧ i ≤ l.length ∧ Aside0 (∀ j : Nat, j < i → vldB (px l j).f0 (px l j).f1 (px l j).f2 (px l j).f3 = true) ∧ Aside0 (wr.heap[w.heap.size]? = some (.cells #[.int .i64 X, .int .i64 Y, .slice A l.length ca] 36 (0, 0))) ∧ Aside0 (Below w.heap.size w wr)) (fun a _ => l.length - (intOf a).toNat)
  case atStart => exact ⟨0, 0, rfl, rfl, by omega, ⟨fun j hj => absurd hj (by omega)⟩, ⟨blk_new w _⟩, ⟨below_alloc (Below.refl _ _) _⟩⟩
  case round =>
    obtain ⟨i, x, rfl, hx, hi, HO, U0, UB⟩ := hrel
    have p2 : wr.cell? ⟨w.heap.size, 2, none⟩ = some (.slice A l.length ca) := (blk_cell U0.out 2).trans rfl
    by_cases hlt : i < l.length
    · have b0 : 0 ≤ x := by omega
      have b1 : x < (l.length : Int) := by omega
      obtain ⟨ad, ea, x0, x1, x2, x3⟩ := at_T45 HR.out x b0 b1
      replace x0 := kept UB.out x0
      replace x1 := kept UB.out x1
      replace x2 := kept UB.out x2
      replace x3 := kept UB.out x3
      have e2 := wi (x + 1) (by omega) (by omega)
      have HX := Aside0.mk hx
      have fx : px l i = rd_T45 l x := by rw [hx]
      have FX := Aside0.mk fx
      clear hx fx
      subst ea
      go_wp2_with fail
      refine (ValidR _ _ _ _ _).mono ?_
      rintro e w1 ⟨rfl, hb⟩
      have Y0 := Aside0.mk (blk_below U0.out hb)
      have YB := Aside0.mk (step UB.out hb)
      clear hb U0 UB x0 x1 x2 x3 p2
      dsimp only
      by_cases hq : vldB (rd_T45 l x).f0 (rd_T45 l x).f1 (rd_T45 l x).f2 (rd_T45 l x).f3 = true
      · rw [hq]
        have GX := Aside0.mk hq
        clear hq
        go_wp2
        go_roundw
        case rel =>
          refine ⟨i + 1, x + 1, rfl, by have := HX.out; omega, by omega, ⟨fun j hj => ?_⟩, Y0, YB⟩
          by_cases hji : j = i
          · subst hji
            rw [FX.out]
            exact GX.out
          · exact HO.out j (by omega)
        case measure => have := HX.out; simp [intOf]; omega
      · have hq2 : vldB (rd_T45 l x).f0 (rd_T45 l x).f1 (rd_T45 l x).f2 (rd_T45 l x).f3 = false := by simpa using hq
        have hv : v = 2 := by
          rw [HE.out, if_neg]
          intro ho
          have := ho i hlt
          rw [FX.out] at this
          exact hq this
        subst hv
        rw [hq2]
        clear hq hq2 HE
        go_wp2
        go_ret
        exact ⟨rfl, YB.out⟩
    · obtain rfl : i = l.length := by omega
      have b7 : ¬ x < (l.length : Int) := by omega
      have hv : v = 0 := by rw [HE.out, if_pos (show OkPix l from fun j hj => HO.out j hj)]
      subst hv
      clear hlt hx HE
      go_wp2
      go_ret
      exact ⟨rfl, UB.out⟩
theorem rras_any (X Y : Int) (A : Option Addr) (ca : Nat) (l : List S45) (w : World) (hr : Kd.C k45 w A l.length l) :
    Calls Try.prog 56 #[.agg #[.int .i64 X, .int .i64 Y, .slice A l.length ca]] w fun e w' => e = .returned (.int .i64 (rasV X Y l)) ∧ Below w.heap.size w w' := by
  unfold rasV
  by_cases hb : BadSides X Y
  · rw [if_pos hb]
    by_cases h0 : X < 0
    · exact rras_s0 X Y A ca l w (by simpa using h0)
    by_cases h1 : 256 < X
    · exact rras_s1 X Y A ca l w (by simpa using h0) (by simpa using h1)
    by_cases h2 : Y < 0
    · exact rras_s2 X Y A ca l w (by simpa using h0) (by simpa using h1) (by simpa using h2)
    by_cases h3 : 256 < Y
    · exact rras_s3 X Y A ca l w (by simpa using h0) (by simpa using h1) (by simpa using h2) (by simpa using h3)
    have h4 : (X == 0) ≠ (Y == 0) := by rcases hb with hb | hb | hb | hb | hb <;> first | exact hb | exact absurd hb (by assumption)
    by_cases hx : X = 0
    · exact rras_z X Y A ca l w (by simpa using h0) (by simpa using h1) (by simpa using h2) (by simpa using h3) (by simpa using hx) (by simpa using fun e : Y = 0 => h4 (by rw [hx, e]))
    · exact rras_y X Y A ca l w (by simpa using h0) (by simpa using h1) (by simpa using h2) (by simpa using h3) (by simpa using hx) (beq_iff_eq.2 (Classical.byContradiction fun e => h4 (by rw [show (X == 0) = false by simpa using hx, show (Y == 0) = false by simpa using e])))
  · rw [if_neg hb]
    have ha := area_small X Y hb
    have e1 := wi (X * Y) (by omega) (by omega)
    unfold BadSides at hb
    have h4 : (Y == 0) = (X == 0) := by
      apply Classical.byContradiction
      intro h
      exact hb (.inr (.inr (.inr (.inr (fun e => h e.symm)))))
    by_cases hl : (l.length : Int) = X * Y
    · rw [if_neg (by simpa using hl)]
      exact rras_l X Y A ca l w (by simp; omega) (by simp; omega) (by simp; omega) (by simp; omega) _ rfl h4 e1 (by simpa using hl) hr (by omega) _ rfl
    · rw [if_pos hl]
      exact rras_n X Y A ca l w (by simp; omega) (by simp; omega) (by simp; omega) (by simp; omega) _ rfl h4 e1 (by simpa using hl)
set_option maxRecDepth 100000 in
set_option maxHeartbeats 16000000 in
theorem rimage_err (k : Int) (P : Option Addr) (n cp : Nat) (S : Option Addr) (m cs : Nat) (X Y : Int) (A : Option Addr) (ca : Nat) (l : List S45) (e0 : Int) (w : World) (hr : Kd.C k45 w A l.length l) (hc : l.length ≤ ca) (h : (e0 == 0) = false)
    (HC : Aside0 (∀ w1, Below w.heap.size w w1 → Calls Try.prog 48 #[.int .i64 k, .slice P n cp, .slice S m cs] w1 fun e w' => e = .returned (.int .i64 e0) ∧ Below w1.heap.size w1 w')) :
    Calls Try.prog 33 #[.int .i64 k, .slice P n cp, .slice S m cs, .agg #[.int .i64 X, .int .i64 Y, .slice A l.length ca]] w fun e w' => e = .returned (.tuple #[.agg #[.int .i64 0, .int .i64 0, .slice none 0 0], .int .i64 e0]) ∧ Below w.heap.size w w' := by
  have _ := hr
  have _ := hc
  go_enter Try.func33, Try.ntmps33
  go_wp2_with fail
  generalize hW : (w.alloc (.cells #[.int .i64 X, .int .i64 Y, .slice A l.length ca] 36)).alloc (.cells #[.int .i64 0, .int .i64 0, .slice none 0 0] 36) = W
  obtain ⟨X0, X1, XB⟩ := two _ _ _ _ hW
  clear hW
  refine (HC.out W XB).mono ?_
  rintro e w1 ⟨rfl, hb⟩
  have Y0 := blk_below X0 hb
  have Y1 := blk_below X1 hb
  have YB := Aside0.mk (step XB hb)
  clear X0 X1 XB hb
  dsimp only
  have z0 : w1.cell? ⟨w.heap.size + 1, 0, none⟩ = some (.int .i64 0) := (blk_cell Y1 0).trans rfl
  have z1 : w1.cell? ⟨w.heap.size + 1, 1, none⟩ = some (.int .i64 0) := (blk_cell Y1 1).trans rfl
  have z2 : w1.cell? ⟨w.heap.size + 1, 2, none⟩ = some (.slice none 0 0) := (blk_cell Y1 2).trans rfl
  have f0 := blk_frozen Y1 0
  have f1 := blk_frozen Y1 1
  have f2 := blk_frozen Y1 2
  clear Y0 Y1
  go_wp2
  refine bodyPost_ret (v := .tuple #[.agg #[.int .i64 0, .int .i64 0, .slice none 0 0], .int .i64 e0]) (by simp [results, Try.results33, go_sem, z0, z1, z2]) rfl ⟨rfl, ?_⟩
  repeat (first | exact YB.out | refine below_set ?_ (by omega))
set_option maxRecDepth 100000 in
set_option maxHeartbeats 16000000 in
theorem rimage_bad (k : Int) (P : Option Addr) (n cp : Nat) (S : Option Addr) (m cs : Nat) (X Y : Int) (A : Option Addr) (ca : Nat) (l : List S45) (e0 : Int) (w : World) (hr : Kd.C k45 w A l.length l) (h : (e0 == 0) = false) (he : rasV X Y l = e0)
    (HC : Aside0 (∀ w1, Below w.heap.size w w1 → Calls Try.prog 48 #[.int .i64 k, .slice P n cp, .slice S m cs] w1 fun e w' => e = .returned (.int .i64 0) ∧ Below w1.heap.size w1 w')) :
    Calls Try.prog 33 #[.int .i64 k, .slice P n cp, .slice S m cs, .agg #[.int .i64 X, .int .i64 Y, .slice A l.length ca]] w fun e w' => e = .returned (.tuple #[.agg #[.int .i64 0, .int .i64 0, .slice none 0 0], .int .i64 e0]) ∧ Below w.heap.size w w' := by
  have HR := Aside0.mk hr
  have HE := Aside0.mk he
  clear hr he
  go_enter Try.func33, Try.ntmps33
  go_wp2_with fail
  generalize hW : (w.alloc (.cells #[.int .i64 X, .int .i64 Y, .slice A l.length ca] 36)).alloc (.cells #[.int .i64 0, .int .i64 0, .slice none 0 0] 36) = W
  obtain ⟨X0, X1, XB⟩ := two _ _ _ _ hW
  clear hW
  refine (HC.out W XB).mono ?_
  rintro e w1 ⟨rfl, hb⟩
  have Y0 := blk_below X0 hb
  have Y1 := blk_below X1 hb
  have YB := Aside0.mk (step XB hb)
  clear X0 X1 XB hb
  dsimp only
  have p0 : w1.cell? ⟨w.heap.size, 0, none⟩ = some (.int .i64 X) := (blk_cell Y0 0).trans rfl
  have p1 : w1.cell? ⟨w.heap.size, 1, none⟩ = some (.int .i64 Y) := (blk_cell Y0 1).trans rfl
  have p2 : w1.cell? ⟨w.heap.size, 2, none⟩ = some (.slice A l.length ca) := (blk_cell Y0 2).trans rfl
  go_wp2_with fail
  refine (rras_any X Y A ca l w1 (Kd.C_below HR.out YB.out)).mono ?_
  rw [HE.out]
  rintro e w2 ⟨rfl, hb⟩
  have V1 := blk_below Y1 hb
  have VB := Aside0.mk (step YB.out hb)
  clear Y0 Y1 YB hb p0 p1 p2
  have z0 : w2.cell? ⟨w.heap.size + 1, 0, none⟩ = some (.int .i64 0) := (blk_cell V1 0).trans rfl
  have z1 : w2.cell? ⟨w.heap.size + 1, 1, none⟩ = some (.int .i64 0) := (blk_cell V1 1).trans rfl
  have z2 : w2.cell? ⟨w.heap.size + 1, 2, none⟩ = some (.slice none 0 0) := (blk_cell V1 2).trans rfl
  have f0 := blk_frozen V1 0
  have f1 := blk_frozen V1 1
  have f2 := blk_frozen V1 2
  clear V1
  dsimp only
  go_wp2
  refine bodyPost_ret (v := .tuple #[.agg #[.int .i64 0, .int .i64 0, .slice none 0 0], .int .i64 e0]) (by simp [results, Try.results33, go_sem, z0, z1, z2]) rfl ⟨rfl, ?_⟩
  repeat (first | exact VB.out | refine below_set ?_ (by omega))
set_option maxRecDepth 100000 in
set_option maxHeartbeats 16000000 in
theorem rimage_ok (k : Int) (P : Option Addr) (n cp : Nat) (S : Option Addr) (m cs : Nat) (X Y : Int) (A : Option Addr) (ca : Nat) (l : List S45) (f : S45 → S45) (w : World) (hr : Kd.C k45 w A l.length l) (he : rasV X Y l = 0)
    (HC : Aside0 (∀ w1, Below w.heap.size w w1 → Calls Try.prog 48 #[.int .i64 k, .slice P n cp, .slice S m cs] w1 fun e w' => e = .returned (.int .i64 0) ∧ Below w1.heap.size w1 w'))
    (HA : Aside0 (∀ (i : Nat) (w1 : World), i < l.length → Below w.heap.size w w1 → Calls Try.prog 57 #[.int .i64 k, .slice P n cp, .slice S m cs, .agg #[.int .i64 (px l i).f0, .int .i64 (px l i).f1, .int .i64 (px l i).f2, .int .i64 (px l i).f3]] w1 fun e w' => e = .returned (.agg #[.int .i64 (f (px l i)).f0, .int .i64 (f (px l i)).f1, .int .i64 (f (px l i)).f2, .int .i64 (f (px l i)).f3]) ∧ Below w1.heap.size w1 w')) :
    Calls Try.prog 33 #[.int .i64 k, .slice P n cp, .slice S m cs, .agg #[.int .i64 X, .int .i64 Y, .slice A l.length ca]] w fun e w' => ∃ B cb, e = .returned (.tuple #[.agg #[.int .i64 X, .int .i64 Y, .slice B l.length cb], .int .i64 0]) ∧ l.length ≤ cb ∧ Kd.C k45 w' B l.length (l.map f) ∧ Below w.heap.size w w' := by
  have HR := Aside0.mk hr
  have HE := Aside0.mk he
  have HL := (ras_zero he).1
  clear hr he
  go_enter Try.func33, Try.ntmps33
  go_wp2_with fail
  generalize hW : (w.alloc (.cells #[.int .i64 X, .int .i64 Y, .slice A l.length ca] 36)).alloc (.cells #[.int .i64 0, .int .i64 0, .slice none 0 0] 36) = W
  obtain ⟨X0, X1, XB⟩ := two _ _ _ _ hW
  clear hW
  refine (HC.out W XB).mono ?_
  rintro e w1 ⟨rfl, hb⟩
  have Y0 := blk_below X0 hb
  have Y1 := blk_below X1 hb
  have YB := Aside0.mk (step XB hb)
  clear X0 X1 XB hb
  dsimp only
  have p0 : w1.cell? ⟨w.heap.size, 0, none⟩ = some (.int .i64 X) := (blk_cell Y0 0).trans rfl
  have p1 : w1.cell? ⟨w.heap.size, 1, none⟩ = some (.int .i64 Y) := (blk_cell Y0 1).trans rfl
  have p2 : w1.cell? ⟨w.heap.size, 2, none⟩ = some (.slice A l.length ca) := (blk_cell Y0 2).trans rfl
  go_wp2_with fail
  refine (rras_any X Y A ca l w1 (Kd.C_below HR.out YB.out)).mono ?_
  rw [HE.out]
  rintro e w2 ⟨rfl, hb⟩
  have V0 := blk_below Y0 hb
  have V1 := blk_below Y1 hb
  have VB := Aside0.mk (step YB.out hb)
  clear Y0 Y1 YB hb p0 p1 p2
  have p0 : w2.cell? ⟨w.heap.size, 0, none⟩ = some (.int .i64 X) := (blk_cell V0 0).trans rfl
  have p1 : w2.cell? ⟨w.heap.size, 1, none⟩ = some (.int .i64 Y) := (blk_cell V0 1).trans rfl
  have p2 : w2.cell? ⟨w.heap.size, 2, none⟩ = some (.slice A l.length ca) := (blk_cell V0 2).trans rfl
  have q0 := fun o => kept (below_alloc (Below.refl _ w2) o) p0
  have q1 := fun o => kept (below_alloc (Below.refl _ w2) o) p1
  have q2 := fun o => kept (below_alloc (Below.refl _ w2) o) p2
  dsimp only
  go_wp2
  obtain ⟨g, hg⟩ : ∃ g, w2.heap.size = g := ⟨_, rfl⟩
  have L1 := blk_lt V1
  have U0 := Aside0.mk (blk_alloc V0 (.cells #[.int .i64 X, .int .i64 Y, .slice none 0 0] 36))
  have U1 := Aside0.mk (blk_alloc V1 (.cells #[.int .i64 X, .int .i64 Y, .slice none 0 0] 36))
  have U2 := Aside0.mk (blk_new w2 (.cells #[.int .i64 X, .int .i64 Y, .slice none 0 0] 36))
  have UB := Aside0.mk (below_alloc VB.out (.cells #[.int .i64 X, .int .i64 Y, .slice none 0 0] 36))
  have US : Aside0 (g + 1 ≤ (w2.alloc (.cells #[.int .i64 X, .int .i64 Y, .slice none 0 0] 36)).heap.size) := ⟨by simp [hg]⟩
  have GL : w.heap.size + 1 < g := by omega
  rw [hg] at U2 ⊢
  clear V0 V1 VB p0 p1 p2 q0 q1 q2 hg L1
  go_loopw [13] (fun a wr => ∃ (i : Nat) (x : Int) (v : Value), a = .int .i64 x ∧ x = i ∧ i ≤ l.length ∧ Aside0 (wr.heap[w.heap.size]? = some (.cells #[.int .i64 X, .int .i64 Y, .slice A l.length ca] 36 (0, 0))) ∧ Aside0 (wr.heap[w.heap.size + 1]? = some (.cells #[.int .i64 0, .int .i64 0, .slice none 0 0] 36 (0, 0))) ∧ Aside0 (wr.heap[g]? = some (.cells #[.int .i64 X, .int .i64 Y, v] 36 (0, 0))) ∧ Aside0 (Kd.R k45 45 wr (g + 1) (fun k => k ≠ g) v (mapPix f l i)) ∧ Aside0 (g + 1 ≤ wr.heap.size) ∧ Aside0 (Below w.heap.size w wr)) (fun a _ => l.length - (intOf a).toNat)
  case atStart => exact ⟨0, 0, .slice none 0 0, rfl, rfl, by omega, U0, U1, U2, ⟨Kd.R_nil _ _ _ _ _⟩, US, UB⟩
  case round =>
    clear U0 U1 U2 UB US
    obtain ⟨i, x, v, rfl, hx, hi, U0, U1, U2, HO, US, UB⟩ := hrel
    have c7 : wr.cell? ⟨w.heap.size, 2, none⟩ = some (.slice A l.length ca) := (blk_cell U0.out 2).trans rfl
    by_cases hlt : i < l.length
    · have b0 : 0 ≤ x := by omega
      have b1 : x < (l.length : Int) := by omega
      obtain ⟨ad, ea, x0, x1, x2, x3⟩ := at_T45 HR.out x b0 b1
      replace x0 := kept UB.out x0
      replace x1 := kept UB.out x1
      replace x2 := kept UB.out x2
      replace x3 := kept UB.out x3
      have e1 := wi (x + 1) (by omega) (by omega)
      have HX := Aside0.mk hx
      have HI := HA.out i
      have fx : px l i = rd_T45 l x := by rw [hx]
      rw [fx] at HI
      have HI := Aside0.mk (fun w1 hb => HI w1 hlt hb)
      have FX := Aside0.mk fx
      clear hx fx
      subst ea
      have y0 := fun o => kept (below_alloc (Below.refl _ wr) o) x0
      have y1 := fun o => kept (below_alloc (Below.refl _ wr) o) x1
      have y2 := fun o => kept (below_alloc (Below.refl _ wr) o) x2
      have y3 := fun o => kept (below_alloc (Below.refl _ wr) o) x3
      have c2 : wr.cell? ⟨g, 2, none⟩ = some v := (blk_cell U2.out 2).trans rfl
      have d7 := fun o => kept (below_alloc (Below.refl _ wr) o) c7
      have d2 := fun o => kept (below_alloc (Below.refl _ wr) o) c2
      have u5 : (mapPix f l i).length = i := mapPix_len f l i (by omega)
      go_wp2
      go_region_law (first | ((refine Kd.R_append_step k45 (w0 := wr) (W := wA) (g + 1) (by rfl) (.tmp 41) (.tmp 51) 34 45 (.agg #[.int .i64 0, .int .i64 0, .int .i64 0, .int .i64 0]) 32 (by rfl) Try.underlying34 info45' rfl (by decide) (by omega) v (mapPix f l i) (f (rd_T45 l x)) [.int .i64 (f (rd_T45 l x)).f0, .int .i64 (f (rd_T45 l x)).f1, .int .i64 (f (rd_T45 l x)).f2, .int .i64 (f (rd_T45 l x)).f3] (fun k => k ≠ g) (fun _ => False) (by rfl) (by rfl) ?aP (fun _ hk => hk.elim) ?aF ?aO ?aB ?aS ?aL ?_); (case aP => exact k45_mkM _ _ _ _); (case aF => exact (fun k hk => by have := ZS.out; show k ≠ g; omega)); (case aO => exact ZO.out); (case aB => exact ZL.out); (case aS => exact ZS.out); (case aL => omega); intro v1 w1 ho hb hg hat; obtain ⟨A1, k1, rfl⟩ := Kd.R_slice ho; have T0 := Aside0.mk ((hb.block w.heap.size (by omega)).trans U0.out); have T1 := Aside0.mk ((hb.block (w.heap.size + 1) (by omega)).trans U1.out); have T2 := Aside0.mk ((hb.block g (by omega)).trans U2.out); have t9 : w1.cell? ⟨g, 2, none⟩ = some v := (blk_cell T2.out 2).trans rfl; have f9 : w1.frozen? ⟨g, 2, none⟩ = false := blk_frozen T2.out 2; have TO := Aside0.mk ho; have TB := Aside0.mk hb; clear ho hb hg hat) | (go_simp; go_at_call 57; refine (HI.out _ ?_).mono ?_; ((with_reducible repeat (first | refine below_drew1 ?_ | refine below_alloc ?_ _)); exact UB.out); rintro e wA ⟨rfl, hb⟩; have ZO : Aside0 (Kd.R k45 45 wA (g + 1) (fun k => k ≠ g) v (mapPix f l i)) := ⟨Kd.R_below (Kd.R_drew HO.out) hb⟩; have ZL : Aside0 (Below (g + 1) wr wA) := ⟨(step (below_drew (Below.refl _ wr)) hb).mono US.out⟩; have ZS : Aside0 (g + 1 ≤ wA.heap.size) := ⟨by have := US.out; have := ZL.out.size; omega⟩; have c3 : wA.cell? ⟨g, 2, none⟩ = some v := (ZL.out.cell (show g < g + 1 by omega)).trans c2; have c4 := fun o => kept (below_alloc (Below.refl _ wA) o) c3; clear hb))
      all_goals
        have ZE : Aside0 (mapPix f l i ++ [f (rd_T45 l x)] = mapPix f l (i + 1)) := ⟨by rw [mapPix_succ f l i hlt, FX.out]⟩
        go_wp2
        go_roundw
        case rel =>
          refine ⟨i + 1, x + 1, .slice A1 (i + 1) k1, rfl, by have := HX.out; omega, by omega, ⟨blk_far T0.out (by show w.heap.size ≠ g; omega) _⟩, ⟨blk_far T1.out (by show w.heap.size + 1 ≠ g; omega) _⟩, ⟨blk_put T2.out 2 _ rfl⟩, ⟨?_⟩, ⟨?_⟩, ⟨?_⟩⟩
          · rw [← ZE.out]
            have h := TO.out
            simp only [List.length_append, u5, List.length_singleton] at h
            exact Kd.R_far h (fun k hk => hk) _
          · have h1 := TB.out.size
            have h2 := US.out
            simp only [World.size_setCell]
            omega
          · exact below_set (UB.out.trans (TB.out.mono (by omega))) (by show w.heap.size ≤ g; omega)
        case measure => have := HX.out; simp [intOf]; omega
    · obtain rfl : i = l.length := by omega
      obtain ⟨A1, k1, rfl, hk1, hC⟩ := Kd.R_reads HO.out
      rw [mapPix_len f l l.length (Nat.le_refl _)] at U2 hk1
      have b7 : ¬ x < (l.length : Int) := by omega
      have m0 : wr.cell? ⟨g, 0, none⟩ = some (.int .i64 X) := (blk_cell U2.out 0).trans rfl
      have m1 : wr.cell? ⟨g, 1, none⟩ = some (.int .i64 Y) := (blk_cell U2.out 1).trans rfl
      have m2 : wr.cell? ⟨g, 2, none⟩ = some (.slice A1 l.length k1) := (blk_cell U2.out 2).trans rfl
      have z0 : wr.cell? ⟨w.heap.size + 1, 0, none⟩ = some (.int .i64 0) := (blk_cell U1.out 0).trans rfl
      have z1 : wr.cell? ⟨w.heap.size + 1, 1, none⟩ = some (.int .i64 0) := (blk_cell U1.out 1).trans rfl
      have z2 : wr.cell? ⟨w.heap.size + 1, 2, none⟩ = some (.slice none 0 0) := (blk_cell U1.out 2).trans rfl
      have f0 := blk_frozen U1.out 0
      have f1 := blk_frozen U1.out 1
      have f2 := blk_frozen U1.out 2
      have HO2 := HO.out
      rw [mapPix_all, List.length_map] at HO2
      have HO3 := Aside0.mk (Kd.R_bound HO2)
      have HK := Aside0.mk hk1
      clear hlt hx hC hk1 HO HO2 U0 U1 U2
      go_wp2
      refine bodyPost_ret (v := .tuple #[.agg #[.int .i64 X, .int .i64 Y, .slice A1 l.length k1], .int .i64 0]) (by simp [results, Try.results33, go_sem, z0, z1, z2]) rfl ⟨A1, k1, rfl, HK.out, ?_, ?_⟩
      · have h := (Kd.R_reads' (Kd.R_far (Kd.R_far (Kd.R_far HO3.out (p := ⟨w.heap.size + 1, 0, none⟩) (fun k hk => by have := hk.2.1; show k ≠ w.heap.size + 1; omega) (.int .i64 X)) (p := ⟨w.heap.size + 1, 1, none⟩) (fun k hk => by have := hk.2.1; show k ≠ w.heap.size + 1; omega) (.int .i64 Y)) (p := ⟨w.heap.size + 1, 2, none⟩) (fun k hk => by have := hk.2.1; show k ≠ w.heap.size + 1; omega) (.slice A1 l.length k1))).2.2
        rw [List.length_map] at h
        exact h
      · repeat (first | exact UB.out | refine below_set ?_ (by omega))
theorem rimage_any (k : Int) (P : Option Addr) (cp : Nat) (l : List Int) (S : Option Addr) (cs : Nat) (s : List S74) (X Y : Int) (A : Option Addr) (ca : Nat) (p : List S45) (w : World) (hp : Ints w P l) (hs : Kd.C k74 w S s.length s) (hcs : s.length ≤ cs) (hr : Kd.C k45 w A p.length p) (hc : p.length ≤ ca) :
    Calls Try.prog 33 #[.int .i64 k, .slice P l.length cp, .slice S s.length cs, .agg #[.int .i64 X, .int .i64 Y, .slice A p.length ca]] w fun e w' => ∃ B cb, e = .returned (.tuple #[.agg #[.int .i64 (imgW k l s X Y p), .int .i64 (imgH k l s X Y p), .slice B (imgPix k l s X Y p).length cb], .int .i64 (imgErr k l s X Y p)]) ∧ (imgPix k l s X Y p).length ≤ cb ∧ Kd.C k45 w' B (imgPix k l s X Y p).length (imgPix k l s X Y p) ∧ Below w.heap.size w w' := by
  have HC := fun w1 (hb : Below w.heap.size w w1) => rcheck_any k P cp l S cs s w1 (hp.below hb) (Kd.C_below hs hb)
  unfold imgW imgH imgPix imgErr
  by_cases h : checkV k l s = 0
  · rw [h] at HC
    rw [if_pos h]
    by_cases h2 : rasV X Y p = 0
    · rw [if_pos h2, if_pos h2, if_pos h2, h2]
      have hG := (check_zero k l s).1 h
      have hv := (ras_zero h2).2
      rw [List.length_map]
      exact rimage_ok k P l.length cp S s.length cs X Y A ca p (fun q => appPix k l s q.f0 q.f1 q.f2 q.f3) w hr h2 ⟨HC⟩ ⟨fun i w1 hi hb => rapply_any k P cp l S cs s _ _ _ _ w1 (hp.below hb) (Kd.C_below hs hb) hcs ((vldB_iff _ _ _ _).1 (hv i hi)) hG⟩
    · rw [if_neg h2, if_neg h2, if_neg h2]
      exact (rimage_bad k P l.length cp S s.length cs X Y A ca p _ w hr (by simpa using h2) rfl ⟨HC⟩).mono fun e w' ⟨he, hb⟩ => ⟨none, 0, he, Nat.le_refl _, C45_nil w', hb⟩
  · rw [if_neg h, if_neg h, if_neg h, if_neg h]
    exact (rimage_err k P l.length cp S s.length cs X Y A ca p _ w hr hc (by simpa using h) ⟨HC⟩).mono fun e w' ⟨he, hb⟩ => ⟨none, 0, he, Nat.le_refl _, C45_nil w', hb⟩
end Go.Proofs.Ytmgpmpiondciiaa.Adj
