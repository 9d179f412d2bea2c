/- adjust.Check as a contract: it answers checkV. No condition but the bounds of each theorem. -/
import Derived.Test.YtmgpmpiondciiaaAdjChk
namespace Go.Proofs.Ytmgpmpiondciiaa.Adj
open Go.RowKit Go.Proofs.Ytmgpmpiondciiaa.PAdjustImages Go.Proofs.YtmgpmpiondciiaaW.PrintWords Go.Proofs.YtmgpmpiondciiaaW.PrintMore Go.Proofs.Ytmgpmpiondciiaa.Plain
theorem countQ (k : Int) (n : Nat) (w : World) : Qt 67 #[.int .i64 k, .int .i64 n] w (.bool (countOk k n)) :=
  (adjust_count.calls 5 k n _ w (count_f k n)).mono fun _ _ ⟨he, hd⟩ => ⟨he, hd.out⟩
theorem ranges_any (k : Int) (P : Option Addr) (cp : Nat) (l : List Int) (S : Option Addr) (cs : Nat) (s : List S74) (w : World) (hp : Kd.C (Kd.int .i64) w P l.length l) (hcp : l.length ≤ cp) (hs : Kd.C k74 w S s.length s) (hcs : s.length ≤ cs) (sm : s.length ≤ 100) (lm : l.length ≤ 100) (h9 : k = 9 → 3 ≤ l.length) :
    Calls Try.prog 68 #[.int .i64 k, .slice P l.length cp, .slice S s.length cs] w fun e w' => e = .returned (.int .i64 (if InRange k l s then 0 else 2)) ∧ Below w.heap.size w w' :=
  adjust_ranges.calls 300 k P cp l S cs s _ w hp hcp hs hcs (ranges_f k l s sm lm h9)
set_option maxRecDepth 100000 in
set_option maxHeartbeats 3200000 in
theorem check_kind (k : Int) (P : Option Addr) (n cp : Nat) (sv : Value) (w : World) (h : k < 1 ∨ 11 < k) :
    Calls Try.prog 45 #[.int .i64 k, .slice P n cp, sv] w fun e w' => e = .returned (.int .i64 8) ∧ Below w.heap.size w w' := by
  rcases h with h | h
  · have q : decide (k < 1) = true := decide_eq_true h
    clear h
    have HB := Aside0.mk (Below.refl w.heap.size w)
    go_enter Try.func45, Try.ntmps45
    go_wp2_with fail
    go_ret
    exact ⟨rfl, HB.out⟩
  · have q : decide (k < 1) = false := decide_eq_false (by omega)
    have q2 : decide (11 < k) = true := decide_eq_true h
    clear h
    have HB := Aside0.mk (Below.refl w.heap.size w)
    go_enter Try.func45, Try.ntmps45
    go_wp2_with fail
    go_ret
    exact ⟨rfl, HB.out⟩
set_option maxRecDepth 100000 in
set_option maxHeartbeats 3200000 in
theorem check_count (k : Int) (P : Option Addr) (n cp : Nat) (S : Option Addr) (m cs : Nat) (w : World) (h0 : ¬ k < 1) (h1 : ¬ 11 < k) (h : countOk k n = false ∨ (k == 10) ≠ decide (0 < (m : Int))) :
    Calls Try.prog 45 #[.int .i64 k, .slice P n cp, .slice S m cs] w fun e w' => e = .returned (.int .i64 1) ∧ Below w.heap.size w w' := by
  have q : decide (k < 1) = false := decide_eq_false h0
  have q2 : decide (11 < k) = false := decide_eq_false h1
  have HB := Aside0.mk (Below.refl w.heap.size w)
  have HC := Aside0.mk (fun w => countQ k n w)
  clear h0 h1
  by_cases c : countOk k n = false
  · rw [c] at HC
    clear h c
    go_enter Try.func45, Try.ntmps45
    go_wp2_with fail
    refine (HC.out _).mono ?_
    rintro e w' ⟨rfl, mm, rfl⟩
    dsimp only
    go_wp2
    go_ret
    exact ⟨rfl, pw_below_drewN HB.out _⟩
  · have h' := h.resolve_left c
    rw [show countOk k n = true by simpa using c] at HC
    by_cases c2 : k = 10
    · have q3 : (k == 10) = true := by simp [c2]
      have q4 : decide (0 < m) = false := by rw [q3] at h'; simpa using h'
      clear h h' c c2
      go_enter Try.func45, Try.ntmps45
      go_wp2_with fail
      refine (HC.out _).mono ?_
      rintro e w' ⟨rfl, mm, rfl⟩
      dsimp only
      go_wp2
      go_ret
      exact ⟨rfl, pw_below_drewN HB.out _⟩
    · have q3 : (k == 10) = false := by simp [c2]
      have q4 : decide (0 < m) = true := by rw [q3] at h'; simp at h'; simp; omega
      clear h h' c c2
      go_enter Try.func45, Try.ntmps45
      go_wp2_with fail
      refine (HC.out _).mono ?_
      rintro e w' ⟨rfl, mm, rfl⟩
      dsimp only
      go_wp2
      go_ret
      exact ⟨rfl, pw_below_drewN HB.out _⟩
set_option maxRecDepth 100000 in
set_option maxHeartbeats 3200000 in
theorem check_limit (P : Option Addr) (cp : Nat) (S : Option Addr) (m cs : Nat) (w : World) (h : 16 < m) :
    Calls Try.prog 45 #[.int .i64 10, .slice P 0 cp, .slice S m cs] w fun e w' => e = .returned (.int .i64 3) ∧ Below w.heap.size w w' := by
  have q4 : decide (0 < m) = true := decide_eq_true (by omega)
  have q5 : decide (16 < (m : Int)) = true := decide_eq_true (by omega)
  have HB := Aside0.mk (Below.refl w.heap.size w)
  have HC : Aside0 (∀ w, Qt 67 #[.int .i64 10, .int .i64 0] w (.bool true)) := ⟨fun w => countQ 10 0 w⟩
  clear h
  go_enter Try.func45, Try.ntmps45
  go_wp2_with fail
  refine (HC.out _).mono ?_
  rintro e w' ⟨rfl, mm, rfl⟩
  dsimp only
  go_wp2
  go_ret
  exact ⟨rfl, pw_below_drewN HB.out _⟩
set_option maxRecDepth 100000 in
set_option maxHeartbeats 3200000 in
theorem check_range (k : Int) (bb : Bool) (P : Option Addr) (cp : Nat) (l : List Int) (S : Option Addr) (cs : Nat) (s : List S74) (w : World) (h0 : ¬ k < 1) (h1 : ¬ 11 < k) (hc : countOk k l.length = true) (q3 : (k == 10) = bb) (q4 : decide (0 < s.length) = bb) (sm : ¬ 16 < s.length)
    (HR : Aside0 (∀ w1, Below w.heap.size w w1 → Calls Try.prog 68 #[.int .i64 k, .slice P l.length cp, .slice S s.length cs] w1 fun e w' => e = .returned (.int .i64 2) ∧ Below w1.heap.size w1 w')) :
    Calls Try.prog 45 #[.int .i64 k, .slice P l.length cp, .slice S s.length cs] w fun e w' => e = .returned (.int .i64 2) ∧ Below w.heap.size w w' := by
  have q : decide (k < 1) = false := decide_eq_false h0
  have q2 : decide (11 < k) = false := decide_eq_false h1
  have q5 : decide (16 < (s.length : Int)) = false := decide_eq_false (by omega)
  have HB := Aside0.mk (Below.refl w.heap.size w)
  have HC := Aside0.mk (fun w => countQ k l.length w)
  rw [hc] at HC
  clear h0 h1 hc sm
  cases bb
  · go_enter Try.func45, Try.ntmps45
    go_wp2_with fail
    refine (HC.out _).mono ?_
    rintro e w' ⟨rfl, mm, rfl⟩
    dsimp only
    go_wp2_with fail
    refine (HR.out _ ?_).mono ?_
    · with_reducible repeat (first | exact HB.out | refine pw_below_drewN ?_ _)
    rintro e w2 ⟨rfl, hb⟩
    dsimp only
    replace hb := step (w := w) (by with_reducible repeat (first | exact HB.out | refine pw_below_drewN ?_ _)) hb
    clear HB
    have HB := Aside0.mk hb
    clear hb
    go_wp2
    go_ret
    exact ⟨rfl, HB.out⟩
  · go_enter Try.func45, Try.ntmps45
    go_wp2_with fail
    refine (HC.out _).mono ?_
    rintro e w' ⟨rfl, mm, rfl⟩
    dsimp only
    go_wp2_with fail
    refine (HR.out _ ?_).mono ?_
    · with_reducible repeat (first | exact HB.out | refine pw_below_drewN ?_ _)
    rintro e w2 ⟨rfl, hb⟩
    dsimp only
    replace hb := step (w := w) (by with_reducible repeat (first | exact HB.out | refine pw_below_drewN ?_ _)) hb
    clear HB
    have HB := Aside0.mk hb
    clear hb
    go_wp2
    go_ret
    exact ⟨rfl, HB.out⟩
def OrdS (s : List S74) : Prop := ∀ i : Nat, i + 1 < s.length → (st s i).f0 < (st s (i + 1)).f0
instance (s : List S74) : Decidable (OrdS s) := decidable_of_iff (∀ i, i < s.length - 1 → (st s i).f0 < (st s (i + 1)).f0) ⟨fun h i hi => h i (by omega), fun h i hi => h i (by omega)⟩
theorem count_small {k : Int} {n : Nat} (h : countOk k n = true) : n ≤ 100 := by
  unfold countOk at h
  repeat' split at h
  all_goals simp at h
  all_goals omega
set_option maxRecDepth 100000 in
set_option maxHeartbeats 8000000 in
theorem check_tail (k e0 : Int) (bb : Bool) (P : Option Addr) (cp : Nat) (l : List Int) (S : Option Addr) (cs : Nat) (s : List S74) (w : World) (hp : Kd.C (Kd.int .i64) w P l.length l) (hcp : l.length ≤ cp) (hs : Kd.C k74 w S s.length s) (hcs : s.length ≤ cs) (h0 : ¬ k < 1) (h1 : ¬ 11 < k) (n2 : k ≠ 2) (n3 : k ≠ 3) (hc : countOk k l.length = true) (q3 : (k == 10) = bb) (q4 : decide (0 < s.length) = bb) (sm : ¬ 16 < s.length) (HI : InRange k l s) (he : e0 = if OrdS s then 0 else 24) :
    Calls Try.prog 45 #[.int .i64 k, .slice P l.length cp, .slice S s.length cs] w fun e w' => e = .returned (.int .i64 e0) ∧ Below w.heap.size w w' := by
  have lm : l.length ≤ 100 := count_small hc
  have h9 : k = 9 → 3 ≤ l.length := fun e => by subst e; simp [countOk] at hc; omega
  have HR : Aside0 (∀ w1, Below w.heap.size w w1 → Calls Try.prog 68 #[.int .i64 k, .slice P l.length cp, .slice S s.length cs] w1 fun e w' => e = .returned (.int .i64 0) ∧ Below w1.heap.size w1 w') := ⟨fun w1 hb => by have := ranges_any k P cp l S cs s w1 (Kd.C_below hp hb) hcp (Kd.C_below hs hb) hcs (by omega) lm h9; rwa [if_pos HI] at this⟩
  have q : decide (k < 1) = false := decide_eq_false h0
  have q2 : decide (11 < k) = false := decide_eq_false h1
  have q5 : decide (16 < (s.length : Int)) = false := decide_eq_false (by omega)
  have q6 : (k == 2) = false := by simpa using n2
  have q7 : (k == 3) = false := by simpa using n3
  have HB := Aside0.mk (Below.refl w.heap.size w)
  have HC := Aside0.mk (fun w => countQ k l.length w)
  have HS := Aside0.mk hs
  have HE := Aside0.mk he
  rw [hc] at HC
  clear h0 h1 hc n2 n3 h9 lm HI hs hp hcp hcs he
  cases bb
  · go_enter Try.func45, Try.ntmps45
    go_wp2_with fail
    refine (HC.out _).mono ?_
    rintro e w' ⟨rfl, mm, rfl⟩
    dsimp only
    go_wp2_with fail
    refine (HR.out _ ?_).mono ?_
    · with_reducible repeat (first | exact HB.out | refine pw_below_drewN ?_ _)
    rintro e w2 ⟨rfl, hb⟩
    dsimp only
    replace hb := step (w := w) (by with_reducible repeat (first | exact HB.out | refine pw_below_drewN ?_ _)) hb
    clear HB
    have HB := Aside0.mk hb
    clear hb
    go_wp2
    first | (go_region; go_wp2) | skip
    go_loopw [9] (fun a wr => ∃ (i : Nat) (x : Int), a = .int .i64 x ∧ x = i ∧ 1 ≤ i ∧ (i ≤ s.length ∨ i = 1) ∧ Aside0 (∀ j : Nat, j + 1 < i → (st s j).f0 < (st s (j + 1)).f0) ∧ Aside0 (Below w.heap.size w wr)) (fun a _ => s.length - (intOf a).toNat)
    case atStart => exact ⟨1, 1, rfl, rfl, by omega, .inr rfl, ⟨fun j hj => by omega⟩, ⟨by with_reducible repeat (first | exact HB.out | refine pw_below_drewN ?_ _ | refine below_drew1 ?_)⟩⟩
    case round =>
      clear HB
      obtain ⟨i, x, rfl, hx, hi, hil, HJ, HB⟩ := hrel
      by_cases hlt : i < s.length
      · obtain ⟨y, hy⟩ : ∃ y : Int, x - 1 = y := ⟨_, rfl⟩
        have b0 : 0 ≤ x := by omega
        have b1 : x < (s.length : Int) := by omega
        have b2 : 0 ≤ y := by omega
        have b3 : y < (s.length : Int) := by omega
        have b4 : 0 ≤ x - 1 := by omega
        have b5 : x - 1 < (s.length : Int) := by omega
        have b6 : 1 ≤ x := by omega
        obtain ⟨ad, e, x0, _⟩ := at_T74 HS.out x b0 b1
        obtain ⟨ad', e', y0, _⟩ := at_T74 HS.out y b2 b3
        rw [e] at e'
        obtain rfl : ad = ad' := by injection e'
        have hyn : y.toNat = x.toNat - 1 := by omega
        rw [hyn] at y0
        clear hyn e'
        replace x0 := kept HB.out x0
        replace y0 := kept HB.out y0
        have e1 := wi (x + 1) (by omega) (by omega)
        have e2 := wi (x - 1) (by omega) (by omega)
        rw [hy] at e2
        have fx : st s i = rd_T74 s x := by rw [hx]
        have fy : st s (i - 1) = rd_T74 s y := by unfold st; rw [show ((i - 1 : Nat) : Int) = y by omega]
        have HX := Aside0.mk hx
        have FX := Aside0.mk fx
        have FY := Aside0.mk fy
        by_cases hq : (rd_T74 s x).f0 ≤ (rd_T74 s y).f0
        · have hN : ¬ OrdS s := fun h => by
            have h1 := h (i - 1) (by omega)
            rw [show i - 1 + 1 = i by omega, fx, fy] at h1
            omega
          have HN := Aside0.mk hN
          have g0 : decide ((rd_T74 s x).f0 ≤ (rd_T74 s y).f0) = true := decide_eq_true hq
          clear hN hq hx hy fx fy
          subst e
          go_wp2
          first | (go_region; go_wp2) | skip
          go_ret
          refine ⟨by rw [HE.out, if_neg HN.out]; rfl, ?_⟩
          with_reducible repeat (first | exact HB.out | refine pw_below_drewN ?_ _ | refine below_drew1 ?_)
        · have g0 : decide ((rd_T74 s x).f0 ≤ (rd_T74 s y).f0) = false := decide_eq_false hq
          have HJ2 : Aside0 (∀ j : Nat, j + 1 < i + 1 → (st s j).f0 < (st s (j + 1)).f0) := ⟨fun j hj => by
            by_cases hji : j + 1 = i
            · obtain rfl : j = i - 1 := by omega
              rw [show i - 1 + 1 = i by omega, fx, fy]
              omega
            · exact HJ.out j (by omega)⟩
          clear hq hx hy fx fy
          subst e
          go_wp2
          first | (go_region; go_wp2) | skip
          go_roundw
          case rel => exact ⟨i + 1, x + 1, rfl, by have := HX.out; omega, by omega, .inl (by omega), HJ2, ⟨by with_reducible repeat (first | exact HB.out | refine pw_below_drewN ?_ _ | refine below_drew1 ?_)⟩⟩
          case measure => have := HX.out; simp [intOf]; omega
      · have hN : OrdS s := fun j hj => HJ.out j (by omega)
        have b7 : ¬ x < (s.length : Int) := by omega
        have HN := Aside0.mk hN
        clear hN hx hlt
        go_wp2
        go_ret
        refine ⟨by rw [HE.out, if_pos HN.out]; rfl, ?_⟩
        with_reducible repeat (first | exact HB.out | refine pw_below_drewN ?_ _ | refine below_drew1 ?_)
  · go_enter Try.func45, Try.ntmps45
    go_wp2_with fail
    refine (HC.out _).mono ?_
    rintro e w' ⟨rfl, mm, rfl⟩
    dsimp only
    go_wp2_with fail
    refine (HR.out _ ?_).mono ?_
    · with_reducible repeat (first | exact HB.out | refine pw_below_drewN ?_ _)
    rintro e w2 ⟨rfl, hb⟩
    dsimp only
    replace hb := step (w := w) (by with_reducible repeat (first | exact HB.out | refine pw_below_drewN ?_ _)) hb
    clear HB
    have HB := Aside0.mk hb
    clear hb
    go_wp2
    first | (go_region; go_wp2) | skip
    go_loopw [9] (fun a wr => ∃ (i : Nat) (x : Int), a = .int .i64 x ∧ x = i ∧ 1 ≤ i ∧ (i ≤ s.length ∨ i = 1) ∧ Aside0 (∀ j : Nat, j + 1 < i → (st s j).f0 < (st s (j + 1)).f0) ∧ Aside0 (Below w.heap.size w wr)) (fun a _ => s.length - (intOf a).toNat)
    case atStart => exact ⟨1, 1, rfl, rfl, by omega, .inr rfl, ⟨fun j hj => by omega⟩, ⟨by with_reducible repeat (first | exact HB.out | refine pw_below_drewN ?_ _ | refine below_drew1 ?_)⟩⟩
    case round =>
      clear HB
      obtain ⟨i, x, rfl, hx, hi, hil, HJ, HB⟩ := hrel
      by_cases hlt : i < s.length
      · obtain ⟨y, hy⟩ : ∃ y : Int, x - 1 = y := ⟨_, rfl⟩
        have b0 : 0 ≤ x := by omega
        have b1 : x < (s.length : Int) := by omega
        have b2 : 0 ≤ y := by omega
        have b3 : y < (s.length : Int) := by omega
        have b4 : 0 ≤ x - 1 := by omega
        have b5 : x - 1 < (s.length : Int) := by omega
        have b6 : 1 ≤ x := by omega
        obtain ⟨ad, e, x0, _⟩ := at_T74 HS.out x b0 b1
        obtain ⟨ad', e', y0, _⟩ := at_T74 HS.out y b2 b3
        rw [e] at e'
        obtain rfl : ad = ad' := by injection e'
        have hyn : y.toNat = x.toNat - 1 := by omega
        rw [hyn] at y0
        clear hyn e'
        replace x0 := kept HB.out x0
        replace y0 := kept HB.out y0
        have e1 := wi (x + 1) (by omega) (by omega)
        have e2 := wi (x - 1) (by omega) (by omega)
        rw [hy] at e2
        have fx : st s i = rd_T74 s x := by rw [hx]
        have fy : st s (i - 1) = rd_T74 s y := by unfold st; rw [show ((i - 1 : Nat) : Int) = y by omega]
        have HX := Aside0.mk hx
        have FX := Aside0.mk fx
        have FY := Aside0.mk fy
        by_cases hq : (rd_T74 s x).f0 ≤ (rd_T74 s y).f0
        · have hN : ¬ OrdS s := fun h => by
            have h1 := h (i - 1) (by omega)
            rw [show i - 1 + 1 = i by omega, fx, fy] at h1
            omega
          have HN := Aside0.mk hN
          have g0 : decide ((rd_T74 s x).f0 ≤ (rd_T74 s y).f0) = true := decide_eq_true hq
          clear hN hq hx hy fx fy
          subst e
          go_wp2
          first | (go_region; go_wp2) | skip
          go_ret
          refine ⟨by rw [HE.out, if_neg HN.out]; rfl, ?_⟩
          with_reducible repeat (first | exact HB.out | refine pw_below_drewN ?_ _ | refine below_drew1 ?_)
        · have g0 : decide ((rd_T74 s x).f0 ≤ (rd_T74 s y).f0) = false := decide_eq_false hq
          have HJ2 : Aside0 (∀ j : Nat, j + 1 < i + 1 → (st s j).f0 < (st s (j + 1)).f0) := ⟨fun j hj => by
            by_cases hji : j + 1 = i
            · obtain rfl : j = i - 1 := by omega
              rw [show i - 1 + 1 = i by omega, fx, fy]
              omega
            · exact HJ.out j (by omega)⟩
          clear hq hx hy fx fy
          subst e
          go_wp2
          first | (go_region; go_wp2) | skip
          go_roundw
          case rel => exact ⟨i + 1, x + 1, rfl, by have := HX.out; omega, by omega, .inl (by omega), HJ2, ⟨by with_reducible repeat (first | exact HB.out | refine pw_below_drewN ?_ _ | refine below_drew1 ?_)⟩⟩
          case measure => have := HX.out; simp [intOf]; omega
      · have hN : OrdS s := fun j hj => HJ.out j (by omega)
        have b7 : ¬ x < (s.length : Int) := by omega
        have HN := Aside0.mk hN
        clear hN hx hlt
        go_wp2
        go_ret
        refine ⟨by rw [HE.out, if_pos HN.out]; rfl, ?_⟩
        with_reducible repeat (first | exact HB.out | refine pw_below_drewN ?_ _ | refine below_drew1 ?_)
set_option maxRecDepth 100000 in
set_option maxHeartbeats 8000000 in
theorem check_2bad (ad : Addr) (cp : Nat) (p0 p1 : Int) (S : Option Addr) (cs : Nat) (w : World) (hp0 : w.cell? ad = some (.int .i64 p0)) (hp1 : w.cell? ⟨ad.block, ad.off + 1, none⟩ = some (.int .i64 p1)) (h : p1 ≤ p0)
    (HR : Aside0 (∀ w1, Below w.heap.size w w1 → Calls Try.prog 68 #[.int .i64 2, .slice (some ad) 5 cp, .slice S 0 cs] w1 fun e w' => e = .returned (.int .i64 0) ∧ Below w1.heap.size w1 w')) :
    Calls Try.prog 45 #[.int .i64 2, .slice (some ad) 5 cp, .slice S 0 cs] w fun e w' => e = .returned (.int .i64 24) ∧ Below w.heap.size w w' := by
  have g0 : decide (p1 ≤ p0) = true := decide_eq_true h
  have HB := Aside0.mk (Below.refl w.heap.size w)
  have HC : Aside0 (∀ w, Qt 67 #[.int .i64 2, .int .i64 5] w (.bool true)) := ⟨fun w => countQ 2 5 w⟩
  clear h
  go_enter Try.func45, Try.ntmps45
  go_wp2_with fail
  refine (HC.out _).mono ?_
  rintro e w' ⟨rfl, mm, rfl⟩
  dsimp only
  go_wp2_with fail
  refine (HR.out _ ?_).mono ?_
  · with_reducible repeat (first | exact HB.out | refine pw_below_drewN ?_ _)
  rintro e w2 ⟨rfl, hb⟩
  dsimp only
  replace hb := step (w := w) (by with_reducible repeat (first | exact HB.out | refine pw_below_drewN ?_ _)) hb
  clear HB
  have HB := Aside0.mk hb
  replace hp0 := kept hb hp0
  replace hp1 := kept hb hp1
  clear hb
  go_wp2
  first | (go_region; go_wp2) | skip
  go_ret
  exact ⟨rfl, by with_reducible repeat (first | exact HB.out | refine pw_below_drewN ?_ _ | refine below_drew1 ?_)⟩
set_option maxRecDepth 100000 in
set_option maxHeartbeats 8000000 in
theorem check_2ok (ad : Addr) (cp : Nat) (p0 p1 : Int) (S : Option Addr) (cs : Nat) (w : World) (hp0 : w.cell? ad = some (.int .i64 p0)) (hp1 : w.cell? ⟨ad.block, ad.off + 1, none⟩ = some (.int .i64 p1)) (h : ¬ p1 ≤ p0)
    (HR : Aside0 (∀ w1, Below w.heap.size w w1 → Calls Try.prog 68 #[.int .i64 2, .slice (some ad) 5 cp, .slice S 0 cs] w1 fun e w' => e = .returned (.int .i64 0) ∧ Below w1.heap.size w1 w')) :
    Calls Try.prog 45 #[.int .i64 2, .slice (some ad) 5 cp, .slice S 0 cs] w fun e w' => e = .returned (.int .i64 0) ∧ Below w.heap.size w w' := by
  have g0 : decide (p1 ≤ p0) = false := decide_eq_false h
  have HB := Aside0.mk (Below.refl w.heap.size w)
  have HC : Aside0 (∀ w, Qt 67 #[.int .i64 2, .int .i64 5] w (.bool true)) := ⟨fun w => countQ 2 5 w⟩
  clear h
  go_enter Try.func45, Try.ntmps45
  go_wp2_with fail
  refine (HC.out _).mono ?_
  rintro e w' ⟨rfl, mm, rfl⟩
  dsimp only
  go_wp2_with fail
  refine (HR.out _ ?_).mono ?_
  · with_reducible repeat (first | exact HB.out | refine pw_below_drewN ?_ _)
  rintro e w2 ⟨rfl, hb⟩
  dsimp only
  replace hb := step (w := w) (by with_reducible repeat (first | exact HB.out | refine pw_below_drewN ?_ _)) hb
  clear HB
  have HB := Aside0.mk hb
  replace hp0 := kept hb hp0
  replace hp1 := kept hb hp1
  clear hb
  go_wp2
  first | (go_region; go_wp2) | skip
  go_loopw [9] (fun a wr => a = .int .i64 1 ∧ Aside0 (Below w.heap.size w wr)) (fun _ _ => 0)
  case atStart => exact ⟨rfl, ⟨by with_reducible repeat (first | exact HB.out | refine pw_below_drewN ?_ _ | refine below_drew1 ?_)⟩⟩
  case round =>
    clear HB
    obtain ⟨rfl, HB⟩ := hrel
    go_wp2
    go_ret
    exact ⟨rfl, by with_reducible repeat (first | exact HB.out | refine pw_below_drewN ?_ _ | refine below_drew1 ?_)⟩
/-- The curve's places rise. -/
def OrdP (l : List Int) : Prop := ∀ i : Nat, 2 * i + 2 < l.length → rd l ((2 * i : Nat) : Int) < rd l ((2 * i + 2 : Nat) : Int)
instance (l : List Int) : Decidable (OrdP l) := decidable_of_iff (∀ i, i < l.length → 2 * i + 2 < l.length → rd l ((2 * i : Nat) : Int) < rd l ((2 * i + 2 : Nat) : Int)) ⟨fun h i hi => h i (by omega) hi, fun h i _ hi => h i hi⟩
set_option maxRecDepth 100000 in
set_option maxHeartbeats 8000000 in
theorem check_3 (e0 : Int) (P : Option Addr) (cp : Nat) (l : List Int) (S : Option Addr) (cs : Nat) (w : World) (hp : Kd.C (Kd.int .i64) w P l.length l) (l4 : 4 ≤ l.length) (l16 : l.length ≤ 16) (l2 : l.length % 2 = 0) (he : e0 = if OrdP l then 0 else 24)
    (HR : Aside0 (∀ w1, Below w.heap.size w w1 → Calls Try.prog 68 #[.int .i64 3, .slice P l.length cp, .slice S 0 cs] w1 fun e w' => e = .returned (.int .i64 0) ∧ Below w1.heap.size w1 w')) :
    Calls Try.prog 45 #[.int .i64 3, .slice P l.length cp, .slice S 0 cs] w fun e w' => e = .returned (.int .i64 e0) ∧ Below w.heap.size w w' := by
  have HE := Aside0.mk he
  have HP := Aside0.mk hp
  have HB := Aside0.mk (Below.refl w.heap.size w)
  have HC : Aside0 (∀ w, Qt 67 #[.int .i64 3, .int .i64 l.length] w (.bool true)) := ⟨fun w => by have := countQ 3 l.length w; rwa [show countOk 3 l.length = true by simp [countOk]; omega] at this⟩
  clear he hp
  go_enter Try.func45, Try.ntmps45
  go_wp2_with fail
  refine (HC.out _).mono ?_
  rintro e w' ⟨rfl, mm, rfl⟩
  dsimp only
  go_wp2_with fail
  refine (HR.out _ ?_).mono ?_
  · with_reducible repeat (first | exact HB.out | refine pw_below_drewN ?_ _)
  rintro e w2 ⟨rfl, hb⟩
  dsimp only
  replace hb := step (w := w) (by with_reducible repeat (first | exact HB.out | refine pw_below_drewN ?_ _)) hb
  clear HB
  have HB := Aside0.mk hb
  clear hb
  go_wp2
  first | (go_region; go_wp2) | skip
  go_loopw [8] (fun a wr => ∃ (i : Nat) (x : Int), a = .int .i64 x ∧ x = 2 * i + 2 ∧ 2 * i + 2 ≤ l.length ∧ Aside0 (∀ j : Nat, j < i → rd l ((2 * j : Nat) : Int) < rd l ((2 * j + 2 : Nat) : Int)) ∧ Aside0 (Below w.heap.size w wr)) (fun a _ => l.length - (intOf a).toNat)
  case atStart => exact ⟨0, 2, rfl, rfl, by omega, ⟨fun j hj => by omega⟩, ⟨by with_reducible repeat (first | exact HB.out | refine pw_below_drewN ?_ _ | refine below_drew1 ?_)⟩⟩
  case round =>
    clear HB
    obtain ⟨i, x, rfl, hx, hil, HJ, HB⟩ := hrel
    by_cases hlt : 2 * i + 2 < l.length
    · obtain ⟨y, hy⟩ : ∃ y : Int, x - 2 = y := ⟨_, rfl⟩
      have b0 : 0 ≤ x := by omega
      have b1 : x < (l.length : Int) := by omega
      have b2 : 0 ≤ y := by omega
      have b3 : y < (l.length : Int) := by omega
      have b4 : 0 ≤ x - 2 := by omega
      have b5 : x - 2 < (l.length : Int) := by omega
      have b6 : 2 ≤ x := by omega
      obtain ⟨ad, e, x0⟩ := Kd.at_int HP.out x b0 b1
      obtain ⟨ad', e', y0⟩ := Kd.at_int HP.out y b2 b3
      rw [e] at e'
      obtain rfl : ad = ad' := by injection e'
      have hyn : y.toNat = (x - 2).toNat := by rw [hy]
      rw [hyn] at y0
      clear hyn e'
      replace x0 := kept HB.out x0
      replace y0 := kept HB.out y0
      have e1 := wi (x + 2) (by omega) (by omega)
      have e2 := wi (x - 2) (by omega) (by omega)
      have fx : rd l ((2 * i + 2 : Nat) : Int) = rd l x := by rw [hx]; rfl
      have fy : rd l ((2 * i : Nat) : Int) = rd l y := by rw [show ((2 * i : Nat) : Int) = y by omega]
      have HX := Aside0.mk hx
      by_cases hq : rd l x ≤ rd l y
      · have hN : ¬ OrdP l := fun h => by
          have h1 := h i hlt
          rw [fx, fy] at h1
          omega
        have HN := Aside0.mk hN
        have g0 : decide (rd l x ≤ rd l y) = true := decide_eq_true hq
        clear hN hq hx hy fx fy
        subst e
        go_wp2
        first | (go_region; go_wp2) | skip
        go_ret
        refine ⟨by rw [HE.out, if_neg HN.out]; rfl, ?_⟩
        with_reducible repeat (first | exact HB.out | refine pw_below_drewN ?_ _ | refine below_drew1 ?_)
      · have g0 : decide (rd l x ≤ rd l y) = false := decide_eq_false hq
        have HJ2 : Aside0 (∀ j : Nat, j < i + 1 → rd l ((2 * j : Nat) : Int) < rd l ((2 * j + 2 : Nat) : Int)) := ⟨fun j hj => by
          by_cases hji : j = i
          · subst hji
            rw [fx, fy]
            omega
          · exact HJ.out j (by omega)⟩
        clear hq hx hy fx fy
        subst e
        go_wp2
        first | (go_region; go_wp2) | skip
        go_roundw
        case rel => exact ⟨i + 1, x + 2, rfl, by have := HX.out; omega, by omega, HJ2, ⟨by with_reducible repeat (first | exact HB.out | refine pw_below_drewN ?_ _ | refine below_drew1 ?_)⟩⟩
        case measure => have := HX.out; simp [intOf]; omega
    · have hN : OrdP l := fun j hj => HJ.out j (by omega)
      have b7 : ¬ x < (l.length : Int) := by omega
      have HN := Aside0.mk hN
      clear hN hx hlt
      go_wp2
      go_loopw [9] (fun a wr => a = .int .i64 1 ∧ Aside0 (Below w.heap.size w wr)) (fun _ _ => 0)
      case atStart => exact ⟨rfl, ⟨by with_reducible repeat (first | exact HB.out | refine pw_below_drewN ?_ _ | refine below_drew1 ?_)⟩⟩
      case round =>
        clear HB
        obtain ⟨rfl, HB⟩ := hrel
        go_wp2
        go_ret
        exact ⟨by rw [HE.out, if_pos HN.out]; rfl, by with_reducible repeat (first | exact HB.out | refine pw_below_drewN ?_ _ | refine below_drew1 ?_)⟩

/-! ### The whole -/
def BadCount (k : Int) (l : List Int) (s : List S74) : Prop := countOk k l.length = false ∨ (k == 10) ≠ decide (0 < s.length)
def BadOrder (k : Int) (l : List Int) (s : List S74) : Prop := (k = 2 ∧ rd l 1 ≤ rd l 0) ∨ (k = 3 ∧ ¬ OrdP l) ∨ ¬ OrdS s
instance (k : Int) (l : List Int) (s : List S74) : Decidable (BadCount k l s) := by unfold BadCount; infer_instance
instance (k : Int) (l : List Int) (s : List S74) : Decidable (BadOrder k l s) := by unfold BadOrder; infer_instance
def checkV (k : Int) (l : List Int) (s : List S74) : Int :=
  if k < 1 ∨ 11 < k then 8 else if BadCount k l s then 1 else if 16 < s.length then 3 else if ¬ InRange k l s then 2 else if BadOrder k l s then 24 else 0
theorem ordS_short (s : List S74) (h : s.length ≤ 1) : OrdS s := fun i hi => by omega
theorem check_any (k : Int) (P : Option Addr) (cp : Nat) (l : List Int) (S : Option Addr) (cs : Nat) (s : List S74) (w : World) (hp : Kd.C (Kd.int .i64) w P l.length l) (hcp : l.length ≤ cp) (hs : Kd.C k74 w S s.length s) (hcs : s.length ≤ cs) :
    Calls Try.prog 45 #[.int .i64 k, .slice P l.length cp, .slice S s.length cs] w fun e w' => e = .returned (.int .i64 (checkV k l s)) ∧ Below w.heap.size w w' := by
  unfold checkV
  by_cases h1 : k < 1 ∨ 11 < k
  · rw [if_pos h1]
    exact check_kind k P l.length cp _ w h1
  rw [if_neg h1]
  by_cases h2 : BadCount k l s
  · rw [if_pos h2]
    refine check_count k P l.length cp S s.length cs w (by omega) (by omega) (h2.imp id fun h => ?_)
    intro h'
    exact h (h'.trans (by simp))
  rw [if_neg h2]
  have c1 : countOk k l.length = true := by
    have : ¬ countOk k l.length = false := fun h => h2 (.inl h)
    simpa using this
  have c2 : (k == 10) = decide (0 < s.length) := by
    have : ¬ (k == 10) ≠ decide (0 < s.length) := fun h => h2 (.inr h)
    exact Classical.not_not.1 this
  by_cases h3 : 16 < s.length
  · rw [if_pos h3]
    have hk : k = 10 := by rw [decide_eq_true (by omega)] at c2; simpa using c2
    subst hk
    have hl : l.length = 0 := by simp [countOk] at c1; simp [c1]
    rw [hl]
    exact check_limit P cp S s.length cs w h3
  rw [if_neg h3]
  have lm := count_small c1
  have h9 : k = 9 → 3 ≤ l.length := fun e => by subst e; simp [countOk] at c1; omega
  by_cases h4 : InRange k l s
  · rw [if_neg (fun h => h h4)]
    by_cases k2 : k = 2
    · subst k2
      have hl : l.length = 5 := by simp [countOk] at c1; omega
      have hs0 : s.length = 0 := by have : decide (0 < s.length) = false := c2.symm.trans (by decide); simpa using this
      have HR : Aside0 (∀ w1, Below w.heap.size w w1 → Calls Try.prog 68 #[.int .i64 2, .slice P l.length cp, .slice S s.length cs] w1 fun e w' => e = .returned (.int .i64 0) ∧ Below w1.heap.size w1 w') := ⟨fun w1 hb => by have := ranges_any 2 P cp l S cs s w1 (Kd.C_below hp hb) hcp (Kd.C_below hs hb) hcs (by omega) lm h9; rwa [if_pos h4] at this⟩
      obtain ⟨ad, rfl, x0⟩ := Kd.at_int hp 0 (by omega) (by omega)
      obtain ⟨ad', e, x1⟩ := Kd.at_int hp 1 (by omega) (by omega)
      obtain rfl := Option.some.inj e
      rw [hl, hs0] at HR ⊢
      have e1 : BadOrder 2 l s ↔ rd l 1 ≤ rd l 0 := by simp [BadOrder, ordS_short s (by omega)]
      by_cases q : rd l 1 ≤ rd l 0
      · rw [if_pos (e1.2 q)]
        exact check_2bad ad cp _ _ S cs w (by simpa [Addr.add] using x0) (by simpa [Addr.add] using x1) q HR
      · rw [if_neg (fun h => q (e1.1 h))]
        exact check_2ok ad cp _ _ S cs w (by simpa [Addr.add] using x0) (by simpa [Addr.add] using x1) q HR
    by_cases k3 : k = 3
    · subst k3
      have hl : 4 ≤ l.length ∧ l.length ≤ 16 ∧ l.length % 2 = 0 := by simp [countOk] at c1; omega
      have hs0 : s.length = 0 := by have : decide (0 < s.length) = false := c2.symm.trans (by decide); simpa using this
      have HR : Aside0 (∀ w1, Below w.heap.size w w1 → Calls Try.prog 68 #[.int .i64 3, .slice P l.length cp, .slice S s.length cs] w1 fun e w' => e = .returned (.int .i64 0) ∧ Below w1.heap.size w1 w') := ⟨fun w1 hb => by have := ranges_any 3 P cp l S cs s w1 (Kd.C_below hp hb) hcp (Kd.C_below hs hb) hcs (by omega) lm h9; rwa [if_pos h4] at this⟩
      rw [hs0] at HR ⊢
      refine check_3 _ P cp l S cs w hp hl.1 hl.2.1 hl.2.2 ?_ HR
      have e1 : BadOrder 3 l s ↔ ¬ OrdP l := by simp [BadOrder, ordS_short s (by omega)]
      by_cases q : OrdP l
      · rw [if_pos q, if_neg (fun h => (e1.1 h) q)]
      · rw [if_neg q, if_pos (e1.2 q)]
    · refine check_tail k _ (k == 10) P cp l S cs s w hp hcp hs hcs (by omega) (by omega) k2 k3 c1 rfl c2.symm h3 h4 ?_
      have e1 : BadOrder k l s ↔ ¬ OrdS s := by simp [BadOrder, k2, k3]
      by_cases q : OrdS s
      · rw [if_pos q, if_neg (fun h => (e1.1 h) q)]
      · rw [if_neg q, if_pos (e1.2 q)]
  · rw [if_pos h4]
    exact check_range k (k == 10) P cp l S cs s w (by omega) (by omega) c1 rfl c2.symm h3 ⟨fun w1 hb => by have := ranges_any k P cp l S cs s w1 (Kd.C_below hp hb) hcp (Kd.C_below hs hb) hcs (by omega) lm h9; rwa [if_neg h4] at this⟩
end Go.Proofs.Ytmgpmpiondciiaa.Adj
