/- The reference's curve value of a good curve at a unit value, as a contract. No condition but the bounds of each theorem. -/
import Derived.Test.YtmgpmpiondciiaaAdjCurve
import Derived.Test.YtmgpmpiondciiaaAdjRefNum
namespace Go.Proofs.Ytmgpmpiondciiaa.Adj
open Go.RowKit Go.Proofs.Ytmgpmpiondciiaa.PAdjustImages Go.Proofs.YtmgpmpiondciiaaW.PrintWords Go.Proofs.YtmgpmpiondciiaaW.PrintMore Go.Proofs.Ytmgpmpiondciiaa.Plain
abbrev rK (K : List Kn) (i : Int) : Kn := PAt.rd_T42 K i
abbrev GoodK (K : List Kn) : Prop := GoodCurve (At.X K) (At.Y K) K.length
theorem unit49 (x : Int) (w : World) (h0 : 0 ≤ x) (h1 : x ≤ 65535) : Calls Try.prog 49 #[.int .i64 x] w fun e w' => e = .returned (.bool true) ∧ Below w.heap.size w w' := by
  have g0 : decide (0 ≤ x) = true := decide_eq_true h0
  have g1 : decide (x ≤ 65535) = true := decide_eq_true h1
  have HB := Aside0.mk (Below.refl w.heap.size w)
  clear h0 h1
  go_enter Try.func49, Try.ntmps49
  go_wp2
  go_ret
  exact ⟨rfl, HB.out⟩
theorem kn_range {K : List Kn} (G : GoodK K) (x : Int) (b0 : 0 ≤ x) (b1 : x < (K.length : Int)) : 0 ≤ (rK K x).f0 ∧ (rK K x).f0 ≤ 65535 ∧ 0 ≤ (rK K x).f1 ∧ (rK K x).f1 ≤ 65535 := by
  obtain ⟨i, rfl⟩ : ∃ i : Nat, x = i := ⟨x.toNat, by omega⟩
  exact ⟨G.x0 i (by omega), G.x1 i (by omega), G.y0 i (by omega), G.y1 i (by omega)⟩
theorem kn_up {K : List Kn} (G : GoodK K) (x : Int) (b0 : 1 ≤ x) (b1 : x < (K.length : Int)) : (rK K (x - 1)).f0 < (rK K x).f0 := by
  obtain ⟨i, rfl⟩ : ∃ i : Nat, x = ((i + 1 : Nat) : Int) := ⟨x.toNat - 1, by omega⟩
  rw [show ((i + 1 : Nat) : Int) - 1 = (i : Int) by omega]
  exact G.up i (by omega)
set_option maxRecDepth 100000 in
set_option maxHeartbeats 8000000 in
theorem rcheck21 (A : Option Addr) (cap : Nat) (K : List Kn) (w : World) (hr : Kd.C PAt.k42 w A K.length K) (G : GoodK K) : Calls Try.prog 21 #[.slice A K.length cap] w fun e w' => e = .returned (.int .i64 0) ∧ Below w.heap.size w w' := by
  have g2 : decide ((K.length : Int) < 2) = false := decide_eq_false (by have := G.two; omega)
  have g16 : decide (16 < (K.length : Int)) = false := decide_eq_false (by have := G.most; omega)
  have hl := G.most
  have HR := Aside0.mk hr
  have HG := Aside0.mk G
  have HB := Aside0.mk (Below.refl w.heap.size w)
  clear hr G
  go_enter Try.func21, Try.ntmps21
  go_wp2
  go_loopw [3] (fun a wr => ∃ (x : Int), a = .int .i64 x ∧ 0 ≤ x ∧ x ≤ K.length ∧ Aside0 (Below w.heap.size w wr)) (fun a _ => K.length - (intOf a).toNat)
  case atStart => exact ⟨0, rfl, by omega, by omega, HB⟩
  case round =>
    clear HB
    obtain ⟨x, rfl, b0, hi, HB⟩ := hrel
    by_cases b1 : x < (K.length : Int)
    · have hk := kn_range HG.out x b0 b1
      have U := Aside0.mk (fun w => unit49 (rK K x).f0 w hk.1 hk.2.1)
      have V := Aside0.mk (fun w => unit49 (rK K x).f1 w hk.2.2.1 hk.2.2.2)
      clear hk
      obtain ⟨ad, ea, x0, x1⟩ := PAt.at_T42 HR.out x b0 b1
      replace x0 := kept HB.out x0
      replace x1 := kept HB.out x1
      have e1 := wi (x + 1) (by omega) (by omega)
      by_cases hx : x = 0
      · subst hx
        have e0 : ad.add (Int.toNat 0 * 2) = ad := by simp [Addr.add]
        rw [e0] at x0 x1
        clear e0
        subst ea
        go_wp2_with fail
        refine (U.out _).mono ?_
        rintro e wU ⟨rfl, hb⟩
        replace x0 := kept hb x0
        replace x1 := kept hb x1
        replace HB := Aside0.mk (step HB.out hb)
        clear hb
        dsimp only
        go_wp2_with fail
        refine (V.out _).mono ?_
        rintro e wV ⟨rfl, hb⟩
        replace x0 := kept hb x0
        replace x1 := kept hb x1
        replace HB := Aside0.mk (step HB.out hb)
        clear hb
        dsimp only
        go_wp2
        first | (go_region; go_wp2) | skip
        go_roundw
        case rel => exact ⟨_, rfl, by omega, by omega, ⟨by with_reducible repeat (first | exact HB.out | refine pw_below_drewN ?_ _ | refine below_drew1 ?_)⟩⟩
        case measure => simp [intOf]; omega
      · have g0 : decide (0 < x) = true := decide_eq_true (by omega)
        have hu := kn_up HG.out x (by omega) b1
        obtain ⟨y, hy⟩ : ∃ y : Int, x - 1 = y := ⟨_, rfl⟩
        have b2 : 0 ≤ y := by omega
        have b3 : y < (K.length : Int) := by omega
        have b4 : 0 ≤ x - 1 := by omega
        have b5 : x - 1 < (K.length : Int) := by omega
        have b6 : 1 ≤ x := by omega
        obtain ⟨ad', e', y0, _⟩ := PAt.at_T42 HR.out y b2 b3
        rw [ea] at e'
        obtain rfl : ad = ad' := by injection e'
        have hyn : y.toNat = x.toNat - 1 := by omega
        rw [hyn] at y0
        clear hyn e'
        replace y0 := kept HB.out y0
        have e2 := wi (x - 1) (by omega) (by omega)
        rw [hy] at e2 hu
        have g1 : decide ((rK K x).f0 ≤ (rK K y).f0) = false := decide_eq_false (by omega)
        have HX := Aside0.mk hx
        clear hu hx hy
        subst ea
        go_wp2_with fail
        refine (U.out _).mono ?_
        rintro e wU ⟨rfl, hb⟩
        replace x0 := kept hb x0
        replace x1 := kept hb x1
        replace y0 := kept hb y0
        replace HB := Aside0.mk (step HB.out hb)
        clear hb
        dsimp only
        go_wp2_with fail
        refine (V.out _).mono ?_
        rintro e wV ⟨rfl, hb⟩
        replace x0 := kept hb x0
        replace x1 := kept hb x1
        replace y0 := kept hb y0
        replace HB := Aside0.mk (step HB.out hb)
        clear hb
        dsimp only
        go_wp2
        first | (go_region; go_wp2) | skip
        go_roundw
        case rel => exact ⟨_, rfl, by omega, by omega, ⟨by with_reducible repeat (first | exact HB.out | refine pw_below_drewN ?_ _ | refine below_drew1 ?_)⟩⟩
        case measure => simp [intOf]; omega
    · clear hi
      go_wp2
      go_ret
      exact ⟨rfl, HB.out⟩
set_option maxRecDepth 100000 in
set_option maxHeartbeats 8000000 in
theorem rat26 (A : Option Addr) (cap : Nat) (K : List Kn) (c e0 : Int) (w : World) (hr : Kd.C PAt.k42 w A K.length K) (G : GoodK K) (c0 : 0 ≤ c) (c1 : c ≤ 65535)
    (he : e0 = if c ≤ At.X K 0 then At.Y K 0 else if cnt (At.X K) c (K.length - 1) 1 = K.length then At.Y K (K.length - 1) else line (At.X K) (At.Y K) (cnt (At.X K) c (K.length - 1) 1) c) :
    Calls Try.prog 26 #[.slice A K.length cap, .int .i64 c] w fun e w' => e = .returned (.int .i64 e0) ∧ Below w.heap.size w w' := by
  have hl := G.most
  have h2 := G.two
  have HE := Aside0.mk he
  have HR := Aside0.mk hr
  have HG := Aside0.mk G
  have HC := Aside0.mk (fun w1 (hb : Below w.heap.size w w1) => rcheck21 A cap K w1 (Kd.C_below hr hb) G)
  have HB := Aside0.mk (Below.refl w.heap.size w)
  obtain ⟨ad, ea, x0, y0⟩ := PAt.at_T42 hr 0 (by omega) (by omega)
  have e0_ : ad.add (Int.toNat 0 * 2) = ad := by simp [Addr.add]
  rw [e0_] at x0 y0
  have l0_ : (0 : Int) < (K.length : Int) := by omega
  clear hr G he e0_
  subst ea
  go_enter Try.func26, Try.ntmps26
  go_wp2_with fail
  refine (HC.out _ (by with_reducible repeat (first | exact HB.out | refine pw_below_drewN ?_ _ | refine below_drew1 ?_))).mono ?_
  rintro e w1 ⟨rfl, hb⟩
  replace x0 := kept hb x0
  replace y0 := kept hb y0
  replace HB := Aside0.mk (step HB.out hb)
  clear hb HC
  dsimp only
  by_cases hc : c ≤ (rK K 0).f0
  · have g : decide (c ≤ (rK K 0).f0) = true := decide_eq_true hc
    have hz : e0 = (rK K 0).f1 := HE.out.trans (if_pos hc)
    have HZ := Aside0.mk hz
    clear hc hz
    go_wp2
    go_ret
    exact ⟨by rw [HZ.out]; rfl, HB.out⟩
  · have g : decide (c ≤ (rK K 0).f0) = false := decide_eq_false hc
    have HJ : Aside0 (At.X K 0 ≤ c) := ⟨Int.le_of_lt (Int.not_le.1 hc)⟩
    have HZ := Aside0.mk (HE.out.trans (if_neg hc))
    clear hc HE
    go_wp2
    clear x0 y0 g
    go_loopw [5] (fun a wr => ∃ (i : Nat) (x : Int), a = .int .i64 x ∧ x = i ∧ 1 ≤ i ∧ i ≤ K.length ∧ Aside0 (At.X K (i - 1) ≤ c) ∧ Aside0 (cnt (At.X K) c (K.length - 1) 1 = cnt (At.X K) c (K.length - i) i) ∧ Aside0 (Below w.heap.size w wr)) (fun a _ => K.length - (intOf a).toNat)
    case atStart => exact ⟨1, 1, rfl, rfl, by omega, by omega, HJ, ⟨rfl⟩, HB⟩
    case round =>
      clear HB HJ
      obtain ⟨i, x, rfl, hx, hi, hil, HJ, HN, HB⟩ := hrel
      by_cases hlt : i < K.length
      · have b0 : 0 ≤ x := by omega
        have b1 : x < (K.length : Int) := by omega
        obtain ⟨y, hy⟩ : ∃ y : Int, x - 1 = y := ⟨_, rfl⟩
        have b2 : 0 ≤ y := by omega
        have b3 : y < (K.length : Int) := by omega
        have b4 : 0 ≤ x - 1 := by omega
        have b5 : x - 1 < (K.length : Int) := by omega
        have b6 : 1 ≤ x := by omega
        obtain ⟨ad', e', x0, x1⟩ := PAt.at_T42 HR.out x b0 b1
        obtain rfl : ad = ad' := by injection e'
        obtain ⟨ad', e', y0, y1⟩ := PAt.at_T42 HR.out y b2 b3
        obtain rfl : ad = ad' := by injection e'
        clear e'
        have hyn : y.toNat = x.toNat - 1 := by omega
        rw [hyn] at y0 y1
        clear hyn
        replace x0 := kept HB.out x0
        replace x1 := kept HB.out x1
        replace y0 := kept HB.out y0
        replace y1 := kept HB.out y1
        have e1 := wi (x + 1) (by omega) (by omega)
        have e2 := wi (x - 1) (by omega) (by omega)
        rw [hy] at e2
        have fX : At.X K i = (rK K x).f0 := by rw [hx]; rfl
        have fY : At.Y K i = (rK K x).f1 := by rw [hx]; rfl
        have gX : At.X K (i - 1) = (rK K y).f0 := by rw [show y = ((i - 1 : Nat) : Int) by omega]; rfl
        have gY : At.Y K (i - 1) = (rK K y).f1 := by rw [show y = ((i - 1 : Nat) : Int) by omega]; rfl
        obtain ⟨d, hd⟩ : ∃ d, K.length - i = d + 1 := ⟨K.length - i - 1, by omega⟩
        have hn := HN.out
        rw [hd] at hn
        rw [show cnt (At.X K) c (d + 1) i = if At.X K i ≤ c then cnt (At.X K) c d (i + 1) else i from rfl] at hn
        by_cases hq : c < (rK K x).f0
        · have g1 : decide (c < (rK K x).f0) = true := decide_eq_true hq
          rw [if_neg (by rw [fX]; omega)] at hn
          have hz := HZ.out
          have hj := HJ.out
          rw [hn, if_neg (by omega)] at hz
          unfold line at hz
          rw [fX, fY, gX, gY] at hz
          rw [gX] at hj
          have kx := kn_range HG.out x b0 b1
          have ky := kn_range HG.out y b2 b3
          have h6 := At.line_small ((rK K x).f1 - (rK K y).f1) (c - (rK K y).f0) (by omega) (by omega) (by omega) (by omega)
          have h7 := At.line_range HG.out i c (by omega) hlt (by rw [gX]; omega) (by rw [fX]; omega)
          unfold line at h7
          rw [fX, fY, gX, gY] at h7
          have w1_ := wi ((rK K x).f1 - (rK K y).f1) (by omega) (by omega)
          have w2_ := wi (c - (rK K y).f0) (by omega) (by omega)
          have w3_ := wi ((rK K x).f0 - (rK K y).f0) (by omega) (by omega)
          have w4_ := wi (((rK K x).f1 - (rK K y).f1) * (c - (rK K y).f0)) (by omega) (by omega)
          have D := Aside0.mk (fun w => rdivR (((rK K x).f1 - (rK K y).f1) * (c - (rK K y).f0)) ((rK K x).f0 - (rK K y).f0) w (by omega) (by omega) (by omega) (by omega))
          obtain ⟨v, hv⟩ : ∃ v, rdiv (((rK K x).f1 - (rK K y).f1) * (c - (rK K y).f0)) ((rK K x).f0 - (rK K y).f0) = v := ⟨_, rfl⟩
          rw [hv] at hz D h7
          have w5_ := wi ((rK K y).f1 + v) (by omega) (by omega)
          have HW := Aside0.mk hz
          clear hz hn hj kx ky h6 h7 hv fX fY gX gY hx hy hq HZ HN HJ hd
          go_wp2_with fail
          go_quiet (first | (go_at_call 53; first | exact Qt.at (D.out _) | exact Qt.at2 (D.out _)))
          go_wp2
          go_ret
          exact ⟨by rw [HW.out]; rfl, by with_reducible repeat (first | exact HB.out | refine pw_below_drewN ?_ _ | refine below_drew1 ?_)⟩
        · have g1 : decide (c < (rK K x).f0) = false := decide_eq_false hq
          rw [if_pos (by rw [fX]; omega)] at hn
          have HN2 := Aside0.mk hn
          have HJ2 : Aside0 (At.X K (i + 1 - 1) ≤ c) := ⟨by rw [Nat.add_sub_cancel, fX]; omega⟩
          have HD := Aside0.mk hd
          have HX := Aside0.mk hx
          clear hn hd hx hy fX fY gX gY hq y0 y1 e2
          go_wp2
          go_roundw
          case rel => exact ⟨i + 1, x + 1, rfl, by have := HX.out; omega, by omega, by omega, HJ2, ⟨by have := HD.out; rw [show K.length - (i + 1) = d by omega]; exact HN2.out⟩, ⟨by with_reducible repeat (first | exact HB.out | refine pw_below_drewN ?_ _ | refine below_drew1 ?_)⟩⟩
          case measure => have := HX.out; simp [intOf]; omega
      · obtain rfl : i = K.length := by omega
        have b4 : (0 : Int) ≤ (K.length : Int) - 1 := by omega
        have b5 : (K.length : Int) - 1 < (K.length : Int) := by omega
        have b6 : 1 ≤ K.length := by omega
        have b7 : ¬ x < (K.length : Int) := by omega
        obtain ⟨ad', e', x0, x1⟩ := PAt.at_T42 HR.out ((K.length : Int) - 1) b4 b5
        obtain rfl : ad = ad' := by injection e'
        have hyn : ((K.length : Int) - 1).toNat = K.length - 1 := by omega
        rw [hyn] at x0 x1
        clear e' hyn
        replace x1 := kept HB.out x1
        have hz := HZ.out
        rw [HN.out, Nat.sub_self, show cnt (At.X K) c 0 K.length = K.length from rfl, if_pos rfl, show At.Y K (K.length - 1) = (rK K ((K.length : Int) - 1)).f1 by rw [show ((K.length : Int) - 1) = ((K.length - 1 : Nat) : Int) by omega]; rfl] at hz
        have HW := Aside0.mk hz
        clear hz hx hlt x0 HZ HN HJ
        go_wp2
        go_ret
        exact ⟨by rw [HW.out]; rfl, HB.out⟩
theorem ratv (A : Option Addr) (cap : Nat) (K : List Kn) (c : Int) (w : World) (hr : Kd.C PAt.k42 w A K.length K) (G : GoodK K) (c0 : 0 ≤ c) (c1 : c ≤ 65535) :
    Calls Try.prog 26 #[.slice A K.length cap, .int .i64 c] w fun e w' => e = .returned (.int .i64 (atv (At.X K) (At.Y K) K.length c)) ∧ Below w.heap.size w w' := by
  refine rat26 A cap K c _ w hr G c0 c1 ?_
  unfold atv
  rw [if_pos ((chk_ok _ _ _).2 G), val_lim G]
end Go.Proofs.Ytmgpmpiondciiaa.Adj
