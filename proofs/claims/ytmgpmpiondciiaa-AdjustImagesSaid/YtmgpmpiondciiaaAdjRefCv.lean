/- The reference's single by a curve, and by any kind that treats the channels alike, as contracts. No condition but the bounds of each theorem. -/
import Derived.Test.YtmgpmpiondciiaaAdjRefOne
import Derived.Deep.RegionLaw
namespace Go.Proofs.Ytmgpmpiondciiaa.Adj
open Go.RowKit Go.Proofs.Ytmgpmpiondciiaa.PAdjustImages Go.Proofs.YtmgpmpiondciiaaW.PrintWords Go.Proofs.YtmgpmpiondciiaaW.PrintMore Go.Proofs.Ytmgpmpiondciiaa.Plain
theorem knots_good (l : List Int) (h4 : 4 ≤ l.length) (l16 : l.length ≤ 16) (l2 : l.length % 2 = 0) (hr : ∀ i : Nat, i < l.length → 0 ≤ rd l i ∧ rd l i ≤ 65535) (ho : OrdP l) : GoodK (knots l (l.length / 2)) := by
  have hx : ∀ i, i < l.length / 2 → At.X (knots l (l.length / 2)) i = rd l ((2 * i : Nat) : Int) ∧ At.Y (knots l (l.length / 2)) i = rd l ((2 * i + 1 : Nat) : Int) := fun i hi => by
    have e : PAt.rd_T42 (knots l (l.length / 2)) (i : Int) = (⟨rd l ((2 * i : Nat) : Int), rd l ((2 * i + 1 : Nat) : Int)⟩ : Kn) := by
      unfold PAt.rd_T42 knots
      rw [Int.toNat_natCast, List.getD_eq_getElem?_getD]
      simp [hi]
    exact ⟨by rw [← At.rdX, e], by rw [← At.rdY, e]⟩
  unfold GoodK
  rw [knots_len]
  refine ⟨by omega, by omega, fun i hi => ?_, fun i hi => ?_, fun i hi => ?_, fun i hi => ?_, fun i hi => ?_⟩
  · rw [(hx i hi).1]; exact (hr _ (by omega)).1
  · rw [(hx i hi).1]; exact (hr _ (by omega)).2
  · rw [(hx i hi).2]; exact (hr _ (by omega)).1
  · rw [(hx i hi).2]; exact (hr _ (by omega)).2
  · rw [(hx i (by omega)).1, (hx (i + 1) hi).1]; exact ho i (by omega)
set_option maxRecDepth 100000 in
set_option maxHeartbeats 8000000 in
theorem sing_3 (P : Option Addr) (cap : Nat) (l : List Int) (c : Int) (w : World) (hp : Ints w P l) (c0 : 0 ≤ c) (c1 : c ≤ 65535) (l16 : l.length ≤ 16) (l2 : l.length % 2 = 0) (G : GoodK (knots l (l.length / 2))) :
    Calls Try.prog 92 #[.int .i64 3, .slice P l.length cap, .int .i64 c] w fun e w' => e = .returned (.int .i64 (curvV l c)) ∧ Below w.heap.size w w' := by
  have HP := Aside0.mk hp
  have HG : Aside0 (∀ A k w, Kd.C PAt.k42 w A (l.length / 2) (knots l (l.length / 2)) → Calls Try.prog 26 #[.slice A (l.length / 2 : Nat) k, .int .i64 c] w fun e w' => e = .returned (.int .i64 (curvV l c)) ∧ Below w.heap.size w w') := ⟨fun A k w h => by
    have := ratv A k (knots l (l.length / 2)) c w (by rw [knots_len]; exact h) G c0 c1
    rw [knots_len] at this
    exact this⟩
  clear hp G
  go_enter Try.func92, Try.ntmps92
  go_wp2
  go_loopw [9, 8] (fun a b wr => ∃ (j : Nat) (x : Int) (v : Value), a = .int .i64 x ∧ v = b ∧ x = 2 * j ∧ 2 * j ≤ l.length ∧ Aside0 (Kd.R PAt.k42 42 wr w.heap.size (fun _ => True) v (knots l j)) ∧ Aside0 (Below w.heap.size w wr)) (fun a _ _ => l.length - (intOf a).toNat)
  case atStart => exact ⟨0, 0, _, rfl, rfl, rfl, by omega, ⟨Kd.R_nil _ _ _ _ _⟩, ⟨Below.refl _ _⟩⟩
  case round =>
    obtain ⟨j, x, v, rfl, rfl, hx, hj, HO, YB⟩ := hrel
    have YS := Aside0.mk YB.out.size
    by_cases hlt : 2 * j < l.length
    · have b0 : 0 ≤ x := by omega
      have b1 : x < (l.length : Int) := by omega
      have b2 : 0 ≤ x + 1 := by omega
      have b3 : x + 1 < (l.length : Int) := by omega
      obtain ⟨ad, e, x0⟩ := Kd.at_int HP.out x b0 b1
      obtain ⟨ad', e', x1⟩ := Kd.at_int HP.out (x + 1) b2 b3
      rw [e] at e'
      obtain rfl : ad = ad' := by injection e'
      clear e'
      replace x0 := kept YB.out x0
      replace x1 := kept YB.out x1
      have e1 := wi (x + 1) (by omega) (by omega)
      have e2 := wi (x + 2) (by omega) (by omega)
      have HX := Aside0.mk hx
      clear hx
      subst e
      have u5 : (knots l j).length = j := knots_len l j
      go_wp2
      go_region_law ((refine Kd.R_append_step PAt.k42 (w0 := wr) (W := wr.drew) w.heap.size (by rfl) (.tmp 63) (.tmp 74) 22 42 (.agg #[.int .i64 0, .int .i64 0]) 16 (by rfl) Try.underlying22 info42' rfl (by decide) (by omega) v (knots l j) (⟨rd l x, rd l (x + 1)⟩ : Kn) [.int .i64 (rd l x), .int .i64 (rd l (x + 1))] (fun _ => True) (fun _ => False) (by rfl) (by rfl) ?aP (fun _ hk => hk.elim) ?aF ?aO ?aB ?aS ?aL ?_); (case aP => exact PAt.k42_mkM _ _ _ _); (case aF => exact fun _ _ => trivial); (case aO => exact (by (with_reducible repeat (first | apply Kd.R_alloc | apply Kd.R_drewN | apply Kd.R_drew)); exact HO.out)); (case aB => exact (by with_reducible repeat (first | exact Below.refl _ _ | refine pw_below_drewN ?_ _ | refine below_drew1 ?_))); (case aS => exact (by have := YS.out; simpa using this)); (case aL => omega); intro v1 w1 ho hb hg hat; have ZO := Aside0.mk ho; have ZB := Aside0.mk hb; clear ho hb hg hat)
      all_goals
        have ZE : Aside0 (knots l j ++ [(⟨rd l x, rd l (x + 1)⟩ : Kn)] = knots l (j + 1)) := ⟨by rw [knots_succ, HX.out]; rfl⟩
        go_wp2
        go_roundw
        case rel =>
          refine ⟨j + 1, x + 2, _, rfl, rfl, by have := HX.out; omega, by omega, ⟨?_⟩, ⟨?_⟩⟩
          · rw [← ZE.out]
            exact ZO.out
          · exact YB.out.trans ZB.out
        case measure => have := HX.out; simp [intOf]; omega
    · obtain ⟨A1, k1, rfl, hk1, hC⟩ := Kd.R_reads HO.out
      have hj2 : j = l.length / 2 := by omega
      subst hj2
      have b7 : ¬ x + 1 < (l.length : Int) := by omega
      have e1 := wi (x + 1) (by omega) (by omega)
      rw [knots_len] at hC
      have HC := Aside0.mk hC
      clear hlt hx hj hC hk1 HO
      rw [knots_len]
      go_wp2_with fail
      refine (HG.out _ _ _ HC.out).mono ?_
      rintro e w' ⟨rfl, hb⟩
      have HB := Aside0.mk (step YB.out hb)
      clear YB hb
      dsimp only
      go_wp2
      go_ret
      exact ⟨rfl, HB.out⟩
/-- What single answers. -/
def singV (k : Int) (l : List Int) (c : Int) : Int :=
  if k = 1 then 65535 - c else if k = 2 then levelsV (rd l 0) (rd l 1) (rd l 2) (rd l 3) (rd l 4) c else if k = 3 then curvV l c else if k = 4 then brightV (rd l 0) (rd l 1) c else if k = 7 then postV (rd l 0 - 1) c else expoV (rd l 0) (rd l 1) c
theorem sing_any (k : Int) (P : Option Addr) (cp : Nat) (l : List Int) (s : List S74) (c : Int) (w : World) (hp : Ints w P l) (hG : Good k l s) (hk : k = 1 ∨ k = 2 ∨ k = 3 ∨ k = 4 ∨ k = 7 ∨ k = 11) (c0 : 0 ≤ c) (c1 : c ≤ 65535) :
    Calls Try.prog 92 #[.int .i64 k, .slice P l.length cp, .int .i64 c] w fun e w' => e = .returned (.int .i64 (singV k l c)) ∧ Below w.heap.size w w' := by
  have hn := hG.n
  have hsp := hG.span
  rcases hk with rfl | rfl | rfl | rfl | rfl | rfl
  · exact sing_1 _ c w c0 c1
  · have hl : l.length = 5 := by simp [countOk] at hn; omega
    obtain ⟨ad, rfl, x0, xi⟩ := ints_cell hp (by omega)
    have b0 := hsp 0 (by omega)
    have b1 := hsp 1 (by omega)
    have b2 := hsp 2 (by omega)
    have b3 := hsp 3 (by omega)
    have b4 := hsp 4 (by omega)
    simp [spanLo, spanHi, adjust_span.f] at b0 b1 b2 b3 b4
    have ho : ¬ rd l 1 ≤ rd l 0 := fun h => hG.o (.inl ⟨rfl, h⟩)
    have := sing_2 ad cp (rd l 0) (rd l 1) (rd l 2) (rd l 3) (rd l 4) c w x0 (xi 1 (by omega) (by omega)) (xi 2 (by omega) (by omega)) (xi 3 (by omega) (by omega)) (xi 4 (by omega) (by omega)) c0 c1 b0.1 (by omega) b1.2 b2.1 b2.2 b3.1 b3.2 b4.1 b4.2
    rw [hl]
    exact this
  · have hl : 4 ≤ l.length ∧ l.length ≤ 16 ∧ l.length % 2 = 0 := by simp [countOk] at hn; omega
    have ho : OrdP l := Classical.byContradiction fun h => hG.o (.inr (.inl ⟨rfl, h⟩))
    exact sing_3 P cp l c w hp c0 c1 hl.2.1 hl.2.2 (knots_good l hl.1 hl.2.1 hl.2.2 (fun i hi => by have := hsp i hi; simpa [spanLo, spanHi, adjust_span.f] using this) ho)
  · have hl : l.length = 2 := by simp [countOk] at hn; omega
    obtain ⟨ad, rfl, x0, xi⟩ := ints_cell hp (by omega)
    have b0 := hsp 0 (by omega)
    have b1 := hsp 1 (by omega)
    simp [spanLo, spanHi, adjust_span.f] at b0 b1
    have := sing_4 ad cp (rd l 0) (rd l 1) c w x0 (xi 1 (by omega) (by omega)) c0 c1 b0.1 b0.2 b1.1 b1.2
    rw [hl]
    exact this
  · have hl : l.length = 1 := by simp [countOk] at hn; omega
    obtain ⟨ad, rfl, x0, xi⟩ := ints_cell hp (by omega)
    have b0 := hsp 0 (by omega)
    simp [spanLo, spanHi, adjust_span.f] at b0
    rw [hl]
    exact sing_7 ad cp (rd l 0) c w x0 c0 c1 b0.1 b0.2
  · have hl : l.length = 2 := by simp [countOk] at hn; omega
    obtain ⟨ad, rfl, x0, xi⟩ := ints_cell hp (by omega)
    have b0 := hsp 0 (by omega)
    have b1 := hsp 1 (by omega)
    simp [spanLo, spanHi, adjust_span.f] at b0 b1
    have := sing_11 ad cp (rd l 0) (rd l 1) c w x0 (xi 1 (by omega) (by omega)) c0 c1 b0.1 b0.2 b1.1 b1.2
    rw [hl]
    exact this
end Go.Proofs.Ytmgpmpiondciiaa.Adj
