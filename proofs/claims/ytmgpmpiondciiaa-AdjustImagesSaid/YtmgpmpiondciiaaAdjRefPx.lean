/- The reference's apply of any kind and its Pixel as contracts. No condition but those of each theorem. -/
import Derived.Test.YtmgpmpiondciiaaAdjRefApp
import Derived.Test.YtmgpmpiondciiaaAdjRefChk
namespace Go.Proofs.Ytmgpmpiondciiaa.Adj
open Go.RowKit Go.Proofs.Ytmgpmpiondciiaa.PAdjustImages Go.Proofs.YtmgpmpiondciiaaW.PrintWords Go.Proofs.YtmgpmpiondciiaaW.PrintMore Go.Proofs.Ytmgpmpiondciiaa.Plain
theorem rapp_5 (ad : Addr) (cap : Nat) (sv : Value) (p0 p1 p2 : Int) (R G B A : Int) (w : World) (V : Vld R G B A) (qa : (A == 0) = false) (hp0 : w.cell? ad = some (.int .i64 p0)) (hp1 : w.cell? ⟨ad.block, ad.off + 1, none⟩ = some (.int .i64 p1)) (hp2 : w.cell? ⟨ad.block, ad.off + 2, none⟩ = some (.int .i64 p2)) (a0 : -32768 ≤ p0) (a1 : p0 ≤ 32768) (b0 : -65535 ≤ p1) (b1 : p1 ≤ 65535) (d0 : -65535 ≤ p2) (d1 : p2 ≤ 65535) :
    Calls Try.prog 57 #[.int .i64 5, .slice (some ad) 3 cap, sv, .agg #[.int .i64 R, .int .i64 G, .int .i64 B, .int .i64 A]] w fun e w' => e = .returned (huePix p0 p1 p2 R G B A) ∧ Below w.heap.size w w' := by
  obtain ⟨_, _, _, _, l0, l1⟩ := hsl_range R G B A V
  by_cases h : 0 ≤ p2
  · obtain ⟨m0, m1⟩ := lig_small (65535 - ligV R G B) p2 (by omega) (by omega) h d1
    exact rapp_5p ad cap sv p0 p1 p2 (ligT (ligV R G B) p2) R G B A w V qa hp0 hp1 hp2 a0 a1 b0 b1 _ ⟨fun w => mulR _ _ w (by omega) (by omega) h d1⟩ m0 m1 (by simpa using h) (by unfold ligT; rw [if_pos h])
  · obtain ⟨m0, m1⟩ := lig_small (lim (65535 - ligV R G B)) (lim p2) (lim_range _).1 (lim_range _).2 (lim_range _).1 (lim_range _).2
    obtain ⟨k0, k1⟩ := lig_small (ligV R G B) (-p2) l0 l1 (by omega) (by omega)
    exact rapp_5n ad cap sv p0 p1 p2 (ligT (ligV R G B) p2) R G B A w V qa hp0 hp1 hp2 a0 a1 b0 b1 d0 d1 _ _ ⟨fun w => mulRX _ _ w⟩ m0 m1 ⟨fun w => mulR _ _ w l0 l1 (by omega) (by omega)⟩ k0 k1 (by simpa using h) (by unfold ligT; rw [if_neg h])
theorem rapply_any (k : Int) (P : Option Addr) (cp : Nat) (l : List Int) (S : Option Addr) (cs : Nat) (s : List S74) (R G B A : Int) (w : World) (hp : Ints w P l) (hs : Kd.C k74 w S s.length s) (hcs : s.length ≤ cs) (V : Vld R G B A) (hG : Good k l s) :
    Calls Try.prog 57 #[.int .i64 k, .slice P l.length cp, .slice S s.length cs, .agg #[.int .i64 R, .int .i64 G, .int .i64 B, .int .i64 A]] w fun e w' => e = .returned (pv (appPix k l s R G B A)) ∧ Below w.heap.size w w' := by
  by_cases ha : A = 0
  · subst ha
    exact rapp_0 k _ _ R G B 0 w rfl
  unfold appPix
  rw [if_neg ha]
  have qa : (A == 0) = false := by simpa using ha
  have hk : k = 1 ∨ k = 2 ∨ k = 3 ∨ k = 4 ∨ k = 5 ∨ k = 6 ∨ k = 7 ∨ k = 8 ∨ k = 9 ∨ k = 10 ∨ k = 11 := by have := hG.k0; have := hG.k1; omega
  have hn := hG.n
  have hsp := hG.span
  rcases hk with rfl | rfl | rfl | rfl | rfl | rfl | rfl | rfl | rfl | rfl | rfl
  · exact rapp_chan (singV 1 l) 1 _ _ R G B A w V qa rfl rfl rfl rfl rfl ⟨fun c w1 c0 c1 hb => sing_any 1 P cp l s c w1 (Kd.C_below hp hb) hG (by omega) c0 c1⟩
  · exact rapp_chan (singV 2 l) 2 _ _ R G B A w V qa rfl rfl rfl rfl rfl ⟨fun c w1 c0 c1 hb => sing_any 2 P cp l s c w1 (Kd.C_below hp hb) hG (by omega) c0 c1⟩
  · exact rapp_chan (singV 3 l) 3 _ _ R G B A w V qa rfl rfl rfl rfl rfl ⟨fun c w1 c0 c1 hb => sing_any 3 P cp l s c w1 (Kd.C_below hp hb) hG (by omega) c0 c1⟩
  · exact rapp_chan (singV 4 l) 4 _ _ R G B A w V qa rfl rfl rfl rfl rfl ⟨fun c w1 c0 c1 hb => sing_any 4 P cp l s c w1 (Kd.C_below hp hb) hG (by omega) c0 c1⟩
  · have hl : l.length = 3 := by simp [countOk] at hn; omega
    obtain ⟨ad, rfl, x0, xi⟩ := ints_cell hp (by omega)
    have b0 := hsp 0 (by omega)
    have b1 := hsp 1 (by omega)
    have b2 := hsp 2 (by omega)
    simp [spanLo, spanHi, adjust_span.f] at b0 b1 b2
    obtain ⟨v0, v1, v2, v3, hq⟩ := hue_agg (rd l 0) (rd l 1) (rd l 2) R G B A
    have := rapp_5 ad cp (.slice S s.length cs) (rd l 0) (rd l 1) (rd l 2) R G B A w V qa x0 (xi 1 (by omega) (by omega)) (xi 2 (by omega) (by omega)) b0.1 b0.2 b1.1 b1.2 b2.1 b2.2
    rw [hl]
    simp only [hq]
    rw [hq] at this
    exact this
  · have hl : l.length = 1 := by simp [countOk] at hn; omega
    obtain ⟨ad, rfl, x0, xi⟩ := ints_cell hp (by omega)
    rw [hl]
    by_cases q : rd l 0 ≤ lumaV R G B
    · simp only [if_pos q]
      exact rapp_6t ad cp _ (rd l 0) R G B A w V qa x0 q
    · simp only [if_neg q]
      exact rapp_6f ad cp _ (rd l 0) R G B A w V qa x0 q
  · exact rapp_chan (singV 7 l) 7 _ _ R G B A w V qa rfl rfl rfl rfl rfl ⟨fun c w1 c0 c1 hb => sing_any 7 P cp l s c w1 (Kd.C_below hp hb) hG (by omega) c0 c1⟩
  · have hl : l.length = 9 := by simp [countOk] at hn; omega
    have b := fun i (hi : i < l.length) => hsp i hi
    simp [spanLo, spanHi, adjust_span.f] at b
    have := rapp_8 P cp (.slice S s.length cs) l R G B A w V qa hp hl (fun x x0 x1 => by have := b x.toNat (by omega); rwa [Int.toNat_of_nonneg x0] at this)
    rw [hl]
    exact this
  · have hl : l.length = 3 := by simp [countOk] at hn; omega
    obtain ⟨ad, rfl, x0, xi⟩ := ints_cell hp (by omega)
    have b0 := hsp 0 (by omega)
    have b1 := hsp 1 (by omega)
    have b2 := hsp 2 (by omega)
    simp [spanLo, spanHi, adjust_span.f] at b0 b1 b2
    have hz : ¬ rd l 0 + rd l 1 + rd l 2 = 0 := fun h => hG.r.2.1 ⟨rfl, h⟩
    rw [hl]
    exact rapp_9 ad cp _ (rd l 0) (rd l 1) (rd l 2) R G B A w V qa x0 (xi 1 (by omega) (by omega)) (xi 2 (by omega) (by omega)) b0.1 b0.2 b1.1 b1.2 b2.1 b2.2 (by omega)
  · obtain ⟨v0, v1, v2, v3, hq⟩ := mapped_agg s (lumaV R G B)
    have := rapp_10 (.slice P l.length cp) S cs s v0 v1 v2 v3 R G B A w V qa hs hcs (hG.stops rfl) hq
    simp only [hq]
    exact this
  · exact rapp_chan (singV 11 l) 11 _ _ R G B A w V qa rfl rfl rfl rfl rfl ⟨fun c w1 c0 c1 hb => sing_any 11 P cp l s c w1 (Kd.C_below hp hb) hG (by omega) c0 c1⟩
set_option maxRecDepth 100000 in
set_option maxHeartbeats 3200000 in
theorem rpixel_err (k : Int) (P : Option Addr) (n cp : Nat) (S : Option Addr) (m cs : Nat) (R G B A e0 : Int) (w : World) (h : (e0 == 0) = false)
    (HC : Aside0 (∀ w1, Below w.heap.size w w1 → Calls Try.prog 48 #[.int .i64 k, .slice P n cp, .slice S m cs] w1 fun e w' => e = .returned (.int .i64 e0) ∧ Below w1.heap.size w1 w')) :
    Calls Try.prog 39 #[.int .i64 k, .slice P n cp, .slice S m cs, .agg #[.int .i64 R, .int .i64 G, .int .i64 B, .int .i64 A]] w fun e w' => e = .returned (.tuple #[Z4, .int .i64 e0]) ∧ Below w.heap.size w w' := by
  go_enter Try.func39, Try.ntmps39
  go_wp2_with fail
  generalize hW : (w.alloc (.cells #[.int .i64 R, .int .i64 G, .int .i64 B, .int .i64 A] 45)).alloc (.cells #[.int .i64 0, .int .i64 0, .int .i64 0, .int .i64 0] 45) = W
  obtain ⟨X0, X1, XB⟩ := two _ _ _ _ hW
  clear hW
  refine (HC.out W XB).mono ?_
  rintro e w1 ⟨rfl, hb⟩
  have Y0 := blk_below X0 hb
  have Y1 := blk_below X1 hb
  have YB := Aside0.mk (step XB hb)
  clear X0 X1 XB hb
  dsimp only
  have hz0 : w1.cell? ⟨w.heap.size + 1, 0, none⟩ = some (.int .i64 0) := (blk_cell Y1 0).trans rfl
  have hf0 := blk_frozen Y1 0
  have hz1 : w1.cell? ⟨w.heap.size + 1, 1, none⟩ = some (.int .i64 0) := (blk_cell Y1 1).trans rfl
  have hf1 := blk_frozen Y1 1
  have hz2 : w1.cell? ⟨w.heap.size + 1, 2, none⟩ = some (.int .i64 0) := (blk_cell Y1 2).trans rfl
  have hf2 := blk_frozen Y1 2
  have hz3 : w1.cell? ⟨w.heap.size + 1, 3, none⟩ = some (.int .i64 0) := (blk_cell Y1 3).trans rfl
  have hf3 := blk_frozen Y1 3
  clear Y0 Y1
  go_wp2
  refine bodyPost_ret (v := .tuple #[Z4, .int .i64 e0]) (by simp [results, Try.results39, go_sem, hz0, hz1, hz2, hz3]) rfl ⟨rfl, ?_⟩
  repeat (first | exact YB.out | refine below_set ?_ (by omega))
set_option maxRecDepth 100000 in
set_option maxHeartbeats 3200000 in
theorem rpixel_bad (k : Int) (P : Option Addr) (n cp : Nat) (S : Option Addr) (m cs : Nat) (R G B A : Int) (w : World) (h : vldB R G B A = false)
    (HC : Aside0 (∀ w1, Below w.heap.size w w1 → Calls Try.prog 48 #[.int .i64 k, .slice P n cp, .slice S m cs] w1 fun e w' => e = .returned (.int .i64 0) ∧ Below w1.heap.size w1 w')) :
    Calls Try.prog 39 #[.int .i64 k, .slice P n cp, .slice S m cs, .agg #[.int .i64 R, .int .i64 G, .int .i64 B, .int .i64 A]] w fun e w' => e = .returned (.tuple #[Z4, .int .i64 2]) ∧ Below w.heap.size w w' := by
  have HM : Aside0 (∀ w, Calls Try.prog 61 #[.agg #[.int .i64 R, .int .i64 G, .int .i64 B, .int .i64 A]] w fun e w' => e = .returned (.bool false) ∧ Below w.heap.size w w') := ⟨fun w => by rw [← h]; exact ValidR R G B A w⟩
  clear h
  go_enter Try.func39, Try.ntmps39
  go_wp2_with fail
  generalize hW : (w.alloc (.cells #[.int .i64 R, .int .i64 G, .int .i64 B, .int .i64 A] 45)).alloc (.cells #[.int .i64 0, .int .i64 0, .int .i64 0, .int .i64 0] 45) = W
  obtain ⟨X0, X1, XB⟩ := two _ _ _ _ hW
  clear hW
  refine (HC.out W XB).mono ?_
  rintro e w1 ⟨rfl, hb⟩
  have Y0 := blk_below X0 hb
  have Y1 := blk_below X1 hb
  have YB := Aside0.mk (step XB hb)
  clear X0 X1 XB hb
  dsimp only
  have p0 : w1.cell? ⟨w.heap.size, 0, none⟩ = some (.int .i64 R) := (blk_cell Y0 0).trans rfl
  have p1 : w1.cell? ⟨w.heap.size, 1, none⟩ = some (.int .i64 G) := (blk_cell Y0 1).trans rfl
  have p2 : w1.cell? ⟨w.heap.size, 2, none⟩ = some (.int .i64 B) := (blk_cell Y0 2).trans rfl
  have p3 : w1.cell? ⟨w.heap.size, 3, none⟩ = some (.int .i64 A) := (blk_cell Y0 3).trans rfl
  go_wp2_with fail
  refine (HM.out _).mono ?_
  rintro e w2 ⟨rfl, hb⟩
  have V1 := blk_below Y1 hb
  have VB := Aside0.mk (step YB.out hb)
  have hz0 : w2.cell? ⟨w.heap.size + 1, 0, none⟩ = some (.int .i64 0) := (blk_cell V1 0).trans rfl
  have hf0 := blk_frozen V1 0
  have hz1 : w2.cell? ⟨w.heap.size + 1, 1, none⟩ = some (.int .i64 0) := (blk_cell V1 1).trans rfl
  have hf1 := blk_frozen V1 1
  have hz2 : w2.cell? ⟨w.heap.size + 1, 2, none⟩ = some (.int .i64 0) := (blk_cell V1 2).trans rfl
  have hf2 := blk_frozen V1 2
  have hz3 : w2.cell? ⟨w.heap.size + 1, 3, none⟩ = some (.int .i64 0) := (blk_cell V1 3).trans rfl
  have hf3 := blk_frozen V1 3
  clear Y0 Y1 V1 YB hb p0 p1 p2 p3
  dsimp only
  go_wp2
  refine bodyPost_ret (v := .tuple #[Z4, .int .i64 2]) (by simp [results, Try.results39, go_sem, hz0, hz1, hz2, hz3]) rfl ⟨rfl, ?_⟩
  repeat (first | exact VB.out | refine below_set ?_ (by omega))
set_option maxRecDepth 100000 in
set_option maxHeartbeats 3200000 in
theorem rpixel_ok (k : Int) (P : Option Addr) (n cp : Nat) (S : Option Addr) (m cs : Nat) (R G B A v0 v1 v2 v3 : Int) (w : World) (h : vldB R G B A = true)
    (HC : Aside0 (∀ w1, Below w.heap.size w w1 → Calls Try.prog 48 #[.int .i64 k, .slice P n cp, .slice S m cs] w1 fun e w' => e = .returned (.int .i64 0) ∧ Below w1.heap.size w1 w'))
    (HA : Aside0 (∀ w1, Below w.heap.size w w1 → Calls Try.prog 57 #[.int .i64 k, .slice P n cp, .slice S m cs, .agg #[.int .i64 R, .int .i64 G, .int .i64 B, .int .i64 A]] w1 fun e w' => e = .returned (.agg #[.int .i64 v0, .int .i64 v1, .int .i64 v2, .int .i64 v3]) ∧ Below w1.heap.size w1 w')) :
    Calls Try.prog 39 #[.int .i64 k, .slice P n cp, .slice S m cs, .agg #[.int .i64 R, .int .i64 G, .int .i64 B, .int .i64 A]] w fun e w' => e = .returned (.tuple #[.agg #[.int .i64 v0, .int .i64 v1, .int .i64 v2, .int .i64 v3], .int .i64 0]) ∧ Below w.heap.size w w' := by
  have HM : Aside0 (∀ w, Calls Try.prog 61 #[.agg #[.int .i64 R, .int .i64 G, .int .i64 B, .int .i64 A]] w fun e w' => e = .returned (.bool true) ∧ Below w.heap.size w w') := ⟨fun w => by rw [← h]; exact ValidR R G B A w⟩
  clear h
  go_enter Try.func39, Try.ntmps39
  go_wp2_with fail
  generalize hW : (w.alloc (.cells #[.int .i64 R, .int .i64 G, .int .i64 B, .int .i64 A] 45)).alloc (.cells #[.int .i64 0, .int .i64 0, .int .i64 0, .int .i64 0] 45) = W
  obtain ⟨X0, X1, XB⟩ := two _ _ _ _ hW
  clear hW
  refine (HC.out W XB).mono ?_
  rintro e w1 ⟨rfl, hb⟩
  have Y0 := blk_below X0 hb
  have Y1 := blk_below X1 hb
  have YB := Aside0.mk (step XB hb)
  clear X0 X1 XB hb
  dsimp only
  have p0 : w1.cell? ⟨w.heap.size, 0, none⟩ = some (.int .i64 R) := (blk_cell Y0 0).trans rfl
  have p1 : w1.cell? ⟨w.heap.size, 1, none⟩ = some (.int .i64 G) := (blk_cell Y0 1).trans rfl
  have p2 : w1.cell? ⟨w.heap.size, 2, none⟩ = some (.int .i64 B) := (blk_cell Y0 2).trans rfl
  have p3 : w1.cell? ⟨w.heap.size, 3, none⟩ = some (.int .i64 A) := (blk_cell Y0 3).trans rfl
  go_wp2_with fail
  refine (HM.out _).mono ?_
  rintro e w2 ⟨rfl, hb⟩
  have V0 := blk_below Y0 hb
  have V1 := blk_below Y1 hb
  have VB := Aside0.mk (step YB.out hb)
  clear Y0 Y1 YB hb p0 p1 p2 p3
  have p0 : w2.cell? ⟨w.heap.size, 0, none⟩ = some (.int .i64 R) := (blk_cell V0 0).trans rfl
  have p1 : w2.cell? ⟨w.heap.size, 1, none⟩ = some (.int .i64 G) := (blk_cell V0 1).trans rfl
  have p2 : w2.cell? ⟨w.heap.size, 2, none⟩ = some (.int .i64 B) := (blk_cell V0 2).trans rfl
  have p3 : w2.cell? ⟨w.heap.size, 3, none⟩ = some (.int .i64 A) := (blk_cell V0 3).trans rfl
  dsimp only
  go_wp2_with fail
  refine (HA.out _ VB.out).mono ?_
  rintro e w3 ⟨rfl, hb⟩
  have U1 := blk_below V1 hb
  have UB := Aside0.mk (step VB.out hb)
  have hz0 : w3.cell? ⟨w.heap.size + 1, 0, none⟩ = some (.int .i64 0) := (blk_cell U1 0).trans rfl
  have hf0 := blk_frozen U1 0
  have hz1 : w3.cell? ⟨w.heap.size + 1, 1, none⟩ = some (.int .i64 0) := (blk_cell U1 1).trans rfl
  have hf1 := blk_frozen U1 1
  have hz2 : w3.cell? ⟨w.heap.size + 1, 2, none⟩ = some (.int .i64 0) := (blk_cell U1 2).trans rfl
  have hf2 := blk_frozen U1 2
  have hz3 : w3.cell? ⟨w.heap.size + 1, 3, none⟩ = some (.int .i64 0) := (blk_cell U1 3).trans rfl
  have hf3 := blk_frozen U1 3
  clear V0 V1 U1 VB hb p0 p1 p2 p3
  dsimp only
  go_wp2
  refine bodyPost_ret (v := .tuple #[.agg #[.int .i64 v0, .int .i64 v1, .int .i64 v2, .int .i64 v3], .int .i64 0]) (by simp [results, Try.results39, go_sem, hz0, hz1, hz2, hz3]) rfl ⟨rfl, ?_⟩
  repeat (first | exact UB.out | refine below_set ?_ (by omega))
theorem rpixel_any (k : Int) (P : Option Addr) (cp : Nat) (l : List Int) (S : Option Addr) (cs : Nat) (s : List S74) (R G B A : Int) (w : World) (hp : Ints w P l) (hs : Kd.C k74 w S s.length s) (hcs : s.length ≤ cs) :
    Calls Try.prog 39 #[.int .i64 k, .slice P l.length cp, .slice S s.length cs, .agg #[.int .i64 R, .int .i64 G, .int .i64 B, .int .i64 A]] w fun e w' => e = .returned (.tuple #[pv (pixAns k l s R G B A), .int .i64 (pixErr k l s R G B A)]) ∧ Below w.heap.size w w' := by
  have HC := fun w1 (hb : Below w.heap.size w w1) => rcheck_any k P cp l S cs s w1 (Kd.C_below hp hb) (Kd.C_below hs hb)
  unfold pixAns pixErr
  by_cases h : checkV k l s = 0
  · rw [h] at HC
    simp only [if_pos h]
    by_cases hv : vldB R G B A = true
    · simp only [if_pos hv]
      exact rpixel_ok k P l.length cp S s.length cs R G B A _ _ _ _ w hv ⟨HC⟩ ⟨fun w1 hb => rapply_any k P cp l S cs s R G B A w1 (Kd.C_below hp hb) (Kd.C_below hs hb) hcs ((vldB_iff _ _ _ _).1 hv) ((check_zero k l s).1 h)⟩
    · simp only [if_neg hv]
      exact rpixel_bad k P l.length cp S s.length cs R G B A w (by simpa using hv) ⟨HC⟩
  · simp only [if_neg h]
    exact rpixel_err k P l.length cp S s.length cs R G B A _ w (by simpa using h) ⟨HC⟩
end Go.Proofs.Ytmgpmpiondciiaa.Adj
