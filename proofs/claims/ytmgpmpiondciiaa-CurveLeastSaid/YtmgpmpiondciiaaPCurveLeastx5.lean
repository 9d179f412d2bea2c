-- PRINTED BY print.sh 35421559b90ae4d0a3588c463048766b98c2df88dd9212a6774a882060cdf62d: not written by this session
import Derived.Test.YtmgpmpiondciiaaPCurveLeastx0
import Derived.Test.YtmgpmpiondciiaaPCurveLeastx2
import Derived.Test.YtmgpmpiondciiaaPCurveLeastx4
namespace Go.Proofs.Ytmgpmpiondciiaa.PCurveLeast
open Go.RowKit Go.Proofs.YtmgpmpiondciiaaW.PrintWords Go.Proofs.YtmgpmpiondciiaaW.PrintLast Go.Proofs.YtmgpmpiondciiaaW.PrintMore
attribute [local go_sem] max2_int min2_int max_two min_two max_three min_three max_four min_four   -- for this text's walks alone
set_option linter.unusedVariables false
set_option linter.unusedSimpArgs false

/-! ### imageeditorlaw07_CurveLeast: function 11 -/
def imageeditorlaw07_CurveLeast.j0 : Nat → List (S42) → Int → Bool → Option (Bool)
  | 0, _, _, _ => none
  | k + 1, x0, x1, x49 => if x49 = true then (some false) else ((curve_At.f k x0 x1).bind fun t170 => ((curve_Back.f k x0 t170).bind fun t171 => (if t171 ≤ (mn (mx x1 0) 65535) then ((imageeditorlaw07_example.f k).bind fun t172 => (some t172)) else (some false))))
def imageeditorlaw07_CurveLeast.f (k : Nat) (l0 : List (S42)) (a1 : Int) (a2 : Int) : Option (Bool) := (imageeditorref07_Rising.f k l0).bind fun t164 => (if t164 = true then ((curve_Back.f k l0 a2).bind fun t167 => (if t167 < 0 then (imageeditorlaw07_CurveLeast.j0 k l0 a1 true) else (if t167 > 65535 then (imageeditorlaw07_CurveLeast.j0 k l0 a1 true) else ((curve_At.f k l0 t167).bind fun t168 => (if t168 < (mn (mx a2 0) 65535) then (imageeditorlaw07_CurveLeast.j0 k l0 a1 true) else (if t167 > 0 then ((curve_At.f k l0 (wrap64 (t167 - 1))).bind fun t169 => (imageeditorlaw07_CurveLeast.j0 k l0 a1 (decide (t169 ≥ (mn (mx a2 0) 65535))))) else (imageeditorlaw07_CurveLeast.j0 k l0 a1 false))))))) else ((curve_Back.f k l0 a2).bind fun t165 => (if t165 = (-1) then ((imageeditorlaw07_example.f k).bind fun t166 => (some t166)) else (some false))))
theorem imageeditorlaw07_CurveLeast.mono_l : ∀ k, (∀ y0 y1 y2, LeO (imageeditorlaw07_CurveLeast.j0 k y0 y1 y2) (imageeditorlaw07_CurveLeast.j0 (k + 1) y0 y1 y2))
  | 0 => fun _ _ _ r h => by simp [imageeditorlaw07_CurveLeast.j0] at h
  | k + 1 => by
    have ih0 := imageeditorlaw07_CurveLeast.mono_l k
    · intro y0 y1 y2
      unfold imageeditorlaw07_CurveLeast.j0
      repeat' first
      | (with_reducible exact ih0 _ _ _)
      | (with_reducible exact curve_At.mono _ _ _)
      | (with_reducible exact curve_Back.mono _ _ _)
      | (with_reducible exact imageeditorlaw07_example.mono _)
      | (with_reducible exact imageeditorref07_Rising.mono _ _)
      | (with_reducible exact LeO.refl _)
      | (with_reducible exact LeO.none _)
      | (with_reducible refine LeO.ite ?_ ?_)
      | (with_reducible refine LeO.bind ?_ (fun _ => ?_))
      | exact ih0 _ _ _
      | exact curve_At.mono _ _ _
      | exact curve_Back.mono _ _ _
      | exact imageeditorlaw07_example.mono _
      | exact imageeditorref07_Rising.mono _ _
      | exact LeO.none _
      | refine LeO.ite ?_ ?_
      | refine LeO.bind ?_ (fun _ => ?_)
theorem imageeditorlaw07_CurveLeast.mono : ∀ a0 a1 a2 k, LeO (imageeditorlaw07_CurveLeast.f k a0 a1 a2) (imageeditorlaw07_CurveLeast.f (k + 1) a0 a1 a2) := by
  intro a0 a1 a2 k
  have ih0 := imageeditorlaw07_CurveLeast.mono_l k
  unfold imageeditorlaw07_CurveLeast.f
  repeat' first
      | (with_reducible exact ih0 _ _ _)
      | (with_reducible exact curve_At.mono _ _ _)
      | (with_reducible exact curve_Back.mono _ _ _)
      | (with_reducible exact imageeditorlaw07_example.mono _)
      | (with_reducible exact imageeditorref07_Rising.mono _ _)
      | (with_reducible exact LeO.refl _)
      | (with_reducible exact LeO.none _)
      | (with_reducible refine LeO.ite ?_ ?_)
      | (with_reducible refine LeO.bind ?_ (fun _ => ?_))
      | exact ih0 _ _ _
      | exact curve_At.mono _ _ _
      | exact curve_Back.mono _ _ _
      | exact imageeditorlaw07_example.mono _
      | exact imageeditorref07_Rising.mono _ _
      | exact LeO.none _
      | refine LeO.ite ?_ ?_
      | refine LeO.bind ?_ (fun _ => ?_)
set_option maxHeartbeats 8000000 in
set_option maxRecDepth 100000 in
theorem imageeditorlaw07_CurveLeast.calls (k : Nat) (A0 : Option Addr) (c0 : Nat) (l0 : List (S42)) (a1 : Int) (a2 : Int) (r : Bool) (w : World) (hr0 : Kd.C k42 w A0 l0.length l0) (hc0 : l0.length ≤ c0) (h : imageeditorlaw07_CurveLeast.f k l0 a1 a2 = some r) :
    Calls Try.prog 11 #[.slice A0 l0.length c0, .int .i64 a1, .int .i64 a2] w fun e w' => e = .returned (.bool r) ∧ Below w.heap.size w w' := by
  have HR0 := Aside0.mk hr0
  have HC0 := Aside0.mk hc0
  clear hr0 hc0
  have HB := Aside0.mk (Below.refl w.heap.size w)
  have H : ((imageeditorref07_Rising.f k l0).bind fun t164 => (if t164 = true then ((curve_Back.f k l0 a2).bind fun t167 => (if t167 < 0 then (imageeditorlaw07_CurveLeast.j0 k l0 a1 true) else (if t167 > 65535 then (imageeditorlaw07_CurveLeast.j0 k l0 a1 true) else ((curve_At.f k l0 t167).bind fun t168 => (if t168 < (mn (mx a2 0) 65535) then (imageeditorlaw07_CurveLeast.j0 k l0 a1 true) else (if t167 > 0 then ((curve_At.f k l0 (wrap64 (t167 - 1))).bind fun t169 => (imageeditorlaw07_CurveLeast.j0 k l0 a1 (decide (t169 ≥ (mn (mx a2 0) 65535))))) else (imageeditorlaw07_CurveLeast.j0 k l0 a1 false))))))) else ((curve_Back.f k l0 a2).bind fun t165 => (if t165 = (-1) then ((imageeditorlaw07_example.f k).bind fun t166 => (some t166)) else (some false))))) = some r := h
  clear h
  replace H := Option.bind_eq_some_iff.mp H
  obtain ⟨t164, A40, H⟩ := H
  replace H : (if t164 = true then ((curve_Back.f k l0 a2).bind fun t167 => (if t167 < 0 then (imageeditorlaw07_CurveLeast.j0 k l0 a1 true) else (if t167 > 65535 then (imageeditorlaw07_CurveLeast.j0 k l0 a1 true) else ((curve_At.f k l0 t167).bind fun t168 => (if t168 < (mn (mx a2 0) 65535) then (imageeditorlaw07_CurveLeast.j0 k l0 a1 true) else (if t167 > 0 then ((curve_At.f k l0 (wrap64 (t167 - 1))).bind fun t169 => (imageeditorlaw07_CurveLeast.j0 k l0 a1 (decide (t169 ≥ (mn (mx a2 0) 65535))))) else (imageeditorlaw07_CurveLeast.j0 k l0 a1 false))))))) else ((curve_Back.f k l0 a2).bind fun t165 => (if t165 = (-1) then ((imageeditorlaw07_example.f k).bind fun t166 => (some t166)) else (some false)))) = some r := H
  have A4 := Aside0.mk A40
  clear A40
  by_cases c5 : t164 = true
  · subst c5
    have H1 : ((curve_Back.f k l0 a2).bind fun t167 => (if t167 < 0 then (imageeditorlaw07_CurveLeast.j0 k l0 a1 true) else (if t167 > 65535 then (imageeditorlaw07_CurveLeast.j0 k l0 a1 true) else ((curve_At.f k l0 t167).bind fun t168 => (if t168 < (mn (mx a2 0) 65535) then (imageeditorlaw07_CurveLeast.j0 k l0 a1 true) else (if t167 > 0 then ((curve_At.f k l0 (wrap64 (t167 - 1))).bind fun t169 => (imageeditorlaw07_CurveLeast.j0 k l0 a1 (decide (t169 ≥ (mn (mx a2 0) 65535))))) else (imageeditorlaw07_CurveLeast.j0 k l0 a1 false))))))) = some r := by rw [if_pos rfl] at H; exact H
    clear H
    have H := H1
    clear H1
    obtain ⟨ji6, hji6⟩ : ∃ j_ : Int, (mx a2 0) = j_ := ⟨_, rfl⟩
    replace H : ((curve_Back.f k l0 a2).bind fun t167 => (if t167 < 0 then (imageeditorlaw07_CurveLeast.j0 k l0 a1 true) else (if t167 > 65535 then (imageeditorlaw07_CurveLeast.j0 k l0 a1 true) else ((curve_At.f k l0 t167).bind fun t168 => (if t168 < (mn (ji6) 65535) then (imageeditorlaw07_CurveLeast.j0 k l0 a1 true) else (if t167 > 0 then ((curve_At.f k l0 (wrap64 (t167 - 1))).bind fun t169 => (imageeditorlaw07_CurveLeast.j0 k l0 a1 (decide (t169 ≥ (mn (ji6) 65535))))) else (imageeditorlaw07_CurveLeast.j0 k l0 a1 false))))))) = some r := by first | (rw [hji6] at H; exact H) | (simp only [hji6] at H ⊢; exact H)
    (try rw [hji6] at A4)
    (try (have hji6l : 0 ≤ ji6 := by (rw [← hji6]; unfold mx; (repeat' split) <;> omega)))
    (try (have hji6m : 0 ≤ ji6 := by omega))
    have hji6_ : (if a2 < 0 then 0 else a2) = ji6 := hji6
    obtain ⟨ji7, hji7⟩ : ∃ j_ : Int, (mn (ji6) 65535) = j_ := ⟨_, rfl⟩
    replace H : ((curve_Back.f k l0 a2).bind fun t167 => (if t167 < 0 then (imageeditorlaw07_CurveLeast.j0 k l0 a1 true) else (if t167 > 65535 then (imageeditorlaw07_CurveLeast.j0 k l0 a1 true) else ((curve_At.f k l0 t167).bind fun t168 => (if t168 < (ji7) then (imageeditorlaw07_CurveLeast.j0 k l0 a1 true) else (if t167 > 0 then ((curve_At.f k l0 (wrap64 (t167 - 1))).bind fun t169 => (imageeditorlaw07_CurveLeast.j0 k l0 a1 (decide (t169 ≥ (ji7))))) else (imageeditorlaw07_CurveLeast.j0 k l0 a1 false))))))) = some r := by first | (rw [hji7] at H; exact H) | (simp only [hji7] at H ⊢; exact H)
    (try rw [hji7] at A4)
    have hji7_ : (if 65535 < (ji6) then 65535 else (ji6)) = ji7 := hji7
    replace H := Option.bind_eq_some_iff.mp H
    obtain ⟨t167, A80, H⟩ := H
    replace H : (if t167 < 0 then (imageeditorlaw07_CurveLeast.j0 k l0 a1 true) else (if t167 > 65535 then (imageeditorlaw07_CurveLeast.j0 k l0 a1 true) else ((curve_At.f k l0 t167).bind fun t168 => (if t168 < (ji7) then (imageeditorlaw07_CurveLeast.j0 k l0 a1 true) else (if t167 > 0 then ((curve_At.f k l0 (wrap64 (t167 - 1))).bind fun t169 => (imageeditorlaw07_CurveLeast.j0 k l0 a1 (decide (t169 ≥ (ji7))))) else (imageeditorlaw07_CurveLeast.j0 k l0 a1 false)))))) = some r := H
    have A8 := Aside0.mk A80
    clear A80
    have HC9 := Aside0.mk H
    clear H
    go_enter Try.func11, Try.ntmps11
    go_upto_region 5 with (first | ((with_reducible refine gate_callee (f := 23) rfl ?_); refine goesL_ (some 10) rfl rfl Try.func23 (by kernel_rfl) rfl #[.slice A0 l0.length c0] rfl (by (try simp only [List.map_toArray, List.map_cons, List.map_nil]); first | done | rfl | (simp only [List.length_drop, List.length_take]; rfl)) ?_; (with_reducible refine (imageeditorref07_Rising.calls k _ _ l0 true _ ?side1 ?side2 A4.out).mono ?_); (case side1 => repeat (first | exact HR0.out | (with_reducible refine Kd.C_alloc ?_ _) | (with_reducible refine Kd.C_drewN ?_ _) | (with_reducible refine Kd.C_drew ?_))); (case side2 => exact HC0.out); rintro e w' ⟨rfl, ⟨nd, rfl⟩⟩; refine ⟨_, rfl, ?_⟩) | ((with_reducible refine gate_callee (f := 30) rfl ?_); refine goesL_ (some 24) rfl rfl Try.func30 (by kernel_rfl) rfl #[.slice A0 l0.length c0, .int .i64 a2] rfl (by (try simp only [List.map_toArray, List.map_cons, List.map_nil]); first | done | rfl | (simp only [List.length_drop, List.length_take]; rfl)) ?_; (with_reducible refine (curve_Back.calls k _ _ l0 a2 t167 _ ?side1 ?side2 A8.out).mono ?_); (case side1 => repeat (first | exact HR0.out | (with_reducible refine Kd.C_alloc ?_ _) | (with_reducible refine Kd.C_drewN ?_ _) | (with_reducible refine Kd.C_drew ?_))); (case side2 => exact HC0.out); rintro e w10 ⟨rfl, hb⟩; refine ⟨_, rfl, ?_⟩; have n0_ := Aside0.mk (below_step (by repeat (first | (with_reducible first | exact HB.out | apply below_alloc | apply pw_below_drewN | apply below_drew1) | exact HB.out)) hb); clear HB; have HB := n0_; clear n0_; (try clear hb); (try clear hb2); (try clear hk); (try clear hi)))
    (try simp only [Act.put, List.setIfInBounds_toArray, List.set_cons_zero, List.set_cons_succ])
    go_cut [49] (fun v49 wc => ∃ (kq : Nat) (x49_8 : Bool), v49 = .bool x49_8 ∧ Aside0 (imageeditorlaw07_CurveLeast.j0 kq l0 a1 x49_8 = some r) ∧ Aside0 (kq ≤ k) ∧ Aside0 (Below w.heap.size w wc))
    case first =>
      have H := HC9.out
      clear HC9
      by_cases c11 : t167 < 0
      · rw [if_pos c11] at H
        have c11b0 : decide (t167 < 0) = true := decide_eq_true c11
        clear c11
        (first | rw [c11b0] | (simp only [i64_w, i32_w]; rw [c11b0]) | skip)
        have H' := Aside0.mk H
        clear H
        go_wp2
        go_meet
        case rel => exact ⟨_, (true), (by first | rfl | (simp; done) | (simp [*]; done)), H', ⟨by first | omega | exact Nat.le_refl _⟩, ⟨by repeat (first | (with_reducible first | exact HB.out | apply below_alloc | apply pw_below_drewN | apply below_drew1) | exact HB.out)⟩⟩
      · rw [if_neg c11] at H
        have c11b0 : decide (t167 < 0) = false := decide_eq_false c11
        clear c11
        (first | rw [c11b0] | (simp only [i64_w, i32_w]; rw [c11b0]) | skip)
        by_cases c12 : t167 > 65535
        · rw [if_pos c12] at H
          have c12b0 : decide (65535 < t167) = true := decide_eq_true c12
          clear c12
          have H' := Aside0.mk H
          clear H
          go_wp2
          go_meet
          case rel => exact ⟨_, (true), (by first | rfl | (simp; done) | (simp [*]; done)), H', ⟨by first | omega | exact Nat.le_refl _⟩, ⟨by repeat (first | (with_reducible first | exact HB.out | apply below_alloc | apply pw_below_drewN | apply below_drew1) | exact HB.out)⟩⟩
        · rw [if_neg c12] at H
          have c12b0 : decide (65535 < t167) = false := decide_eq_false c12
          clear c12
          replace H := Option.bind_eq_some_iff.mp H
          obtain ⟨t168, A130, H⟩ := H
          replace H : (if t168 < (ji7) then (imageeditorlaw07_CurveLeast.j0 k l0 a1 true) else (if t167 > 0 then ((curve_At.f k l0 (wrap64 (t167 - 1))).bind fun t169 => (imageeditorlaw07_CurveLeast.j0 k l0 a1 (decide (t169 ≥ (ji7))))) else (imageeditorlaw07_CurveLeast.j0 k l0 a1 false))) = some r := H
          have A13 := Aside0.mk A130
          clear A130
          by_cases c14 : t168 < (ji7)
          · rw [if_pos c14] at H
            have c14b0 : decide (t168 < (ji7)) = true := decide_eq_true c14
            clear c14
            have H' := Aside0.mk H
            clear H
            go_wp2_with (first | (go_at_call 25; (with_reducible refine (curve_At.calls k _ _ l0 t167 t168 _ ?side1 ?side2 A13.out).mono ?_); (case side1 => repeat (first | exact (Kd.C_below HR0.out HB.out) | (with_reducible refine Kd.C_alloc ?_ _) | (with_reducible refine Kd.C_drewN ?_ _) | (with_reducible refine Kd.C_drew ?_))); (case side2 => exact HC0.out); rintro e w15 ⟨rfl, hb⟩; have n0_ := Aside0.mk (below_step (by repeat (first | (with_reducible first | exact HB.out | apply below_alloc | apply pw_below_drewN | apply below_drew1) | exact HB.out)) hb); clear HB; have HB := n0_; clear n0_; (try clear hb); (try clear hb2); (try clear hk); (try clear hi)))
            go_meet
            case rel => exact ⟨_, (true), (by first | rfl | (simp; done) | (simp [*]; done)), H', ⟨by first | omega | exact Nat.le_refl _⟩, ⟨by repeat (first | (with_reducible first | exact HB.out | apply below_alloc | apply pw_below_drewN | apply below_drew1) | exact HB.out)⟩⟩
          · rw [if_neg c14] at H
            have c14b0 : decide (t168 < (ji7)) = false := decide_eq_false c14
            clear c14
            by_cases c16 : t167 > 0
            · rw [if_pos c16] at H
              have c16b0 : decide (0 < t167) = true := decide_eq_true c16
              clear c16
              replace H := Option.bind_eq_some_iff.mp H
              obtain ⟨t169, A170, H⟩ := H
              replace H : (imageeditorlaw07_CurveLeast.j0 k l0 a1 (decide (t169 ≥ (ji7)))) = some r := H
              have A17 := Aside0.mk A170
              clear A170
              have H' := Aside0.mk H
              clear H
              go_wp2_with (first | (go_at_call 25; (with_reducible refine (curve_At.calls k _ _ l0 t167 t168 _ ?side1 ?side2 A13.out).mono ?_); (case side1 => repeat (first | exact (Kd.C_below HR0.out HB.out) | (with_reducible refine Kd.C_alloc ?_ _) | (with_reducible refine Kd.C_drewN ?_ _) | (with_reducible refine Kd.C_drew ?_))); (case side2 => exact HC0.out); rintro e w18 ⟨rfl, hb⟩; have n0_ := Aside0.mk (below_step (by repeat (first | (with_reducible first | exact HB.out | apply below_alloc | apply pw_below_drewN | apply below_drew1) | exact HB.out)) hb); clear HB; have HB := n0_; clear n0_; (try clear hb); (try clear hb2); (try clear hk); (try clear hi)) | (go_at_call 25; (with_reducible refine (curve_At.calls k _ _ l0 (wrap64 (t167 - 1)) t169 _ ?side1 ?side2 A17.out).mono ?_); (case side1 => repeat (first | exact (Kd.C_below HR0.out HB.out) | (with_reducible refine Kd.C_alloc ?_ _) | (with_reducible refine Kd.C_drewN ?_ _) | (with_reducible refine Kd.C_drew ?_))); (case side2 => exact HC0.out); rintro e w19 ⟨rfl, hb⟩; have n0_ := Aside0.mk (below_step (by repeat (first | (with_reducible first | exact HB.out | apply below_alloc | apply pw_below_drewN | apply below_drew1) | exact HB.out)) hb); clear HB; have HB := n0_; clear n0_; (try clear hb); (try clear hb2); (try clear hk); (try clear hi)))
              go_meet
              case rel => exact ⟨_, (decide (t169 ≥ (ji7))), (by first | rfl | (simp; done) | (simp only [← hji7] <;> (first | rfl | simp)) | (simp [*]; done)), H', ⟨by first | omega | exact Nat.le_refl _⟩, ⟨by repeat (first | (with_reducible first | exact HB.out | apply below_alloc | apply pw_below_drewN | apply below_drew1) | exact HB.out)⟩⟩
            · rw [if_neg c16] at H
              have c16b0 : decide (0 < t167) = false := decide_eq_false c16
              clear c16
              have H' := Aside0.mk H
              clear H
              go_wp2_with (first | (go_at_call 25; (with_reducible refine (curve_At.calls k _ _ l0 t167 t168 _ ?side1 ?side2 A13.out).mono ?_); (case side1 => repeat (first | exact (Kd.C_below HR0.out HB.out) | (with_reducible refine Kd.C_alloc ?_ _) | (with_reducible refine Kd.C_drewN ?_ _) | (with_reducible refine Kd.C_drew ?_))); (case side2 => exact HC0.out); rintro e w20 ⟨rfl, hb⟩; have n0_ := Aside0.mk (below_step (by repeat (first | (with_reducible first | exact HB.out | apply below_alloc | apply pw_below_drewN | apply below_drew1) | exact HB.out)) hb); clear HB; have HB := n0_; clear n0_; (try clear hb); (try clear hb2); (try clear hk); (try clear hi)))
              go_meet
              case rel => exact ⟨_, (false), (by first | rfl | (simp; done) | (simp [*]; done)), H', ⟨by first | omega | exact Nat.le_refl _⟩, ⟨by repeat (first | (with_reducible first | exact HB.out | apply below_alloc | apply pw_below_drewN | apply below_drew1) | exact HB.out)⟩⟩
    case rest =>
      clear HC9
      try clear c1
      try clear c2
      try clear p2
      try clear c3
      try clear c5
      try clear p6
      try clear c11
      try clear c11b0
      try clear c12
      try clear c12b0
      try clear c14
      try clear c14b0
      try clear c16
      try clear c16b0
      obtain ⟨kq, x49_8, rfl, HA, HJ8, HB⟩ := hcut
      cases kq with
      | zero => exact absurd HA.out (by simp [imageeditorlaw07_CurveLeast.j0])
      | succ kj8 =>
        have H := HA.out
        clear HA
        simp only [imageeditorlaw07_CurveLeast.j0] at H
        by_cases c21 : x49_8 = true
        · subst c21
          have H1 : (some false) = some r := by rw [if_pos rfl] at H; exact H
          clear H
          have H := H1
          clear H1
          obtain rfl := Option.some.inj H
          go_wp2
          go_ret
          exact ⟨by first | rfl | (simp [errW_none, errW_some] <;> rfl) | (simp only [← hji6, ← hji7]; first | rfl | (simp [errW_none, errW_some] <;> rfl)) | (simp [*, errW_none, errW_some] <;> rfl), by repeat (first | (with_reducible first | exact HB.out | apply below_alloc | apply pw_below_drewN | apply below_drew1) | exact HB.out)⟩
        · replace c21 := Bool.eq_false_iff.mpr c21
          subst c21
          have H1 : ((curve_At.f kj8 l0 a1).bind fun t170 => ((curve_Back.f kj8 l0 t170).bind fun t171 => (if t171 ≤ (mn (mx a1 0) 65535) then ((imageeditorlaw07_example.f kj8).bind fun t172 => (some t172)) else (some false)))) = some r := by rw [if_neg (show ¬ (false = true) by decide)] at H; exact H
          clear H
          have H := H1
          clear H1
          replace H := Option.bind_eq_some_iff.mp H
          obtain ⟨t170, A220, H⟩ := H
          replace H : ((curve_Back.f kj8 l0 t170).bind fun t171 => (if t171 ≤ (mn (mx a1 0) 65535) then ((imageeditorlaw07_example.f kj8).bind fun t172 => (some t172)) else (some false))) = some r := H
          have A22 := Aside0.mk A220
          clear A220
          replace H := Option.bind_eq_some_iff.mp H
          obtain ⟨t171, A230, H⟩ := H
          replace H : (if t171 ≤ (mn (mx a1 0) 65535) then ((imageeditorlaw07_example.f kj8).bind fun t172 => (some t172)) else (some false)) = some r := H
          have A23 := Aside0.mk A230
          clear A230
          obtain ⟨ji24, hji24⟩ : ∃ j_ : Int, (mx a1 0) = j_ := ⟨_, rfl⟩
          replace H : (if t171 ≤ (mn (ji24) 65535) then ((imageeditorlaw07_example.f kj8).bind fun t172 => (some t172)) else (some false)) = some r := by first | (rw [hji24] at H; exact H) | (simp only [hji24] at H ⊢; exact H)
          (try rw [hji24] at A22)
          (try rw [hji24] at A23)
          have hji24_ : (if a1 < 0 then 0 else a1) = ji24 := hji24
          obtain ⟨ji25, hji25⟩ : ∃ j_ : Int, (mn (ji24) 65535) = j_ := ⟨_, rfl⟩
          replace H : (if t171 ≤ (ji25) then ((imageeditorlaw07_example.f kj8).bind fun t172 => (some t172)) else (some false)) = some r := by first | (rw [hji25] at H; exact H) | (simp only [hji25] at H ⊢; exact H)
          (try rw [hji25] at A22)
          (try rw [hji25] at A23)
          have hji25_ : (if 65535 < (ji24) then 65535 else (ji24)) = ji25 := hji25
          by_cases c26 : t171 ≤ (ji25)
          · rw [if_pos c26] at H
            have c26b0 : decide (t171 ≤ (ji25)) = true := decide_eq_true c26
            clear c26
            replace H := Option.bind_eq_some_iff.mp H
            obtain ⟨t172, A270, H⟩ := H
            replace H : (some t172) = some r := H
            have A27 := Aside0.mk A270
            clear A270
            obtain rfl := Option.some.inj H
            go_wp2_with (first | ((with_reducible refine gate_callee (f := 25) rfl ?_); refine goesL_ (some 53) rfl rfl Try.func25 (by kernel_rfl) rfl #[.slice A0 l0.length c0, .int .i64 a1] rfl (by (try simp only [List.map_toArray, List.map_cons, List.map_nil]); first | done | rfl | (simp only [List.length_drop, List.length_take]; rfl)) ?_; (with_reducible refine (curve_At.calls kj8 _ _ l0 a1 t170 _ ?side1 ?side2 A22.out).mono ?_); (case side1 => repeat (first | exact (Kd.C_below HR0.out HB.out) | (with_reducible refine Kd.C_alloc ?_ _) | (with_reducible refine Kd.C_drewN ?_ _) | (with_reducible refine Kd.C_drew ?_))); (case side2 => exact HC0.out); rintro e w28 ⟨rfl, hb⟩; refine ⟨_, rfl, ?_⟩; have n0_ := Aside0.mk (below_step (by repeat (first | (with_reducible first | exact HB.out | apply below_alloc | apply pw_below_drewN | apply below_drew1) | exact HB.out)) hb); clear HB; have HB := n0_; clear n0_; (try clear hb); (try clear hb2); (try clear hk); (try clear hi)) | ((with_reducible refine gate_callee (f := 30) rfl ?_); refine goesL_ (some 54) rfl rfl Try.func30 (by kernel_rfl) rfl #[.slice A0 l0.length c0, .int .i64 t170] rfl (by (try simp only [List.map_toArray, List.map_cons, List.map_nil]); first | done | rfl | (simp only [List.length_drop, List.length_take]; rfl)) ?_; (with_reducible refine (curve_Back.calls kj8 _ _ l0 t170 t171 _ ?side1 ?side2 A23.out).mono ?_); (case side1 => repeat (first | exact (Kd.C_below HR0.out HB.out) | (with_reducible refine Kd.C_alloc ?_ _) | (with_reducible refine Kd.C_drewN ?_ _) | (with_reducible refine Kd.C_drew ?_))); (case side2 => exact HC0.out); rintro e w29 ⟨rfl, hb⟩; refine ⟨_, rfl, ?_⟩; have n0_ := Aside0.mk (below_step (by repeat (first | (with_reducible first | exact HB.out | apply below_alloc | apply pw_below_drewN | apply below_drew1) | exact HB.out)) hb); clear HB; have HB := n0_; clear n0_; (try clear hb); (try clear hb2); (try clear hk); (try clear hi)) | (go_at_call 24; (with_reducible refine (imageeditorlaw07_example.calls kj8  t172 _ A27.out).mono ?_); rintro e w30 ⟨rfl, hb⟩; have n0_ := Aside0.mk (below_step (by repeat (first | (with_reducible first | exact HB.out | apply below_alloc | apply pw_below_drewN | apply below_drew1) | exact HB.out)) hb); clear HB; have HB := n0_; clear n0_; (try clear hb); (try clear hb2); (try clear hk); (try clear hi)))
            go_ret
            exact ⟨by first | rfl | (simp [errW_none, errW_some] <;> rfl) | (simp only [← hji6, ← hji7, ← hji24, ← hji25]; first | rfl | (simp [errW_none, errW_some] <;> rfl)) | (simp [*, errW_none, errW_some] <;> rfl), by repeat (first | (with_reducible first | exact HB.out | apply below_alloc | apply pw_below_drewN | apply below_drew1) | exact HB.out)⟩
          · rw [if_neg c26] at H
            have c26b0 : decide (t171 ≤ (ji25)) = false := decide_eq_false c26
            clear c26
            obtain rfl := Option.some.inj H
            go_wp2_with (first | ((with_reducible refine gate_callee (f := 25) rfl ?_); refine goesL_ (some 53) rfl rfl Try.func25 (by kernel_rfl) rfl #[.slice A0 l0.length c0, .int .i64 a1] rfl (by (try simp only [List.map_toArray, List.map_cons, List.map_nil]); first | done | rfl | (simp only [List.length_drop, List.length_take]; rfl)) ?_; (with_reducible refine (curve_At.calls kj8 _ _ l0 a1 t170 _ ?side1 ?side2 A22.out).mono ?_); (case side1 => repeat (first | exact (Kd.C_below HR0.out HB.out) | (with_reducible refine Kd.C_alloc ?_ _) | (with_reducible refine Kd.C_drewN ?_ _) | (with_reducible refine Kd.C_drew ?_))); (case side2 => exact HC0.out); rintro e w31 ⟨rfl, hb⟩; refine ⟨_, rfl, ?_⟩; have n0_ := Aside0.mk (below_step (by repeat (first | (with_reducible first | exact HB.out | apply below_alloc | apply pw_below_drewN | apply below_drew1) | exact HB.out)) hb); clear HB; have HB := n0_; clear n0_; (try clear hb); (try clear hb2); (try clear hk); (try clear hi)) | ((with_reducible refine gate_callee (f := 30) rfl ?_); refine goesL_ (some 54) rfl rfl Try.func30 (by kernel_rfl) rfl #[.slice A0 l0.length c0, .int .i64 t170] rfl (by (try simp only [List.map_toArray, List.map_cons, List.map_nil]); first | done | rfl | (simp only [List.length_drop, List.length_take]; rfl)) ?_; (with_reducible refine (curve_Back.calls kj8 _ _ l0 t170 t171 _ ?side1 ?side2 A23.out).mono ?_); (case side1 => repeat (first | exact (Kd.C_below HR0.out HB.out) | (with_reducible refine Kd.C_alloc ?_ _) | (with_reducible refine Kd.C_drewN ?_ _) | (with_reducible refine Kd.C_drew ?_))); (case side2 => exact HC0.out); rintro e w32 ⟨rfl, hb⟩; refine ⟨_, rfl, ?_⟩; have n0_ := Aside0.mk (below_step (by repeat (first | (with_reducible first | exact HB.out | apply below_alloc | apply pw_below_drewN | apply below_drew1) | exact HB.out)) hb); clear HB; have HB := n0_; clear n0_; (try clear hb); (try clear hb2); (try clear hk); (try clear hi)))
            go_ret
            exact ⟨by first | rfl | (simp [errW_none, errW_some] <;> rfl) | (simp only [← hji6, ← hji7, ← hji24, ← hji25]; first | rfl | (simp [errW_none, errW_some] <;> rfl)) | (simp [*, errW_none, errW_some] <;> rfl), by repeat (first | (with_reducible first | exact HB.out | apply below_alloc | apply pw_below_drewN | apply below_drew1) | exact HB.out)⟩
  · replace c5 := Bool.eq_false_iff.mpr c5
    subst c5
    have H1 : ((curve_Back.f k l0 a2).bind fun t165 => (if t165 = (-1) then ((imageeditorlaw07_example.f k).bind fun t166 => (some t166)) else (some false))) = some r := by rw [if_neg (show ¬ (false = true) by decide)] at H; exact H
    clear H
    have H := H1
    clear H1
    replace H := Option.bind_eq_some_iff.mp H
    obtain ⟨t165, A330, H⟩ := H
    replace H : (if t165 = (-1) then ((imageeditorlaw07_example.f k).bind fun t166 => (some t166)) else (some false)) = some r := H
    have A33 := Aside0.mk A330
    clear A330
    by_cases c34 : t165 = (-1)
    · rw [if_pos c34] at H
      have c34b0 : (t165 == (-1)) = true := beq_iff_eq.mpr c34
      have c34b1 : (t165 != (-1)) = false := bne_eq_false_iff_eq.mpr c34
      clear c34
      replace H := Option.bind_eq_some_iff.mp H
      obtain ⟨t166, A350, H⟩ := H
      replace H : (some t166) = some r := H
      have A35 := Aside0.mk A350
      clear A350
      obtain rfl := Option.some.inj H
      go_enter Try.func11, Try.ntmps11
      go_wp2_with (first | ((with_reducible refine gate_callee (f := 23) rfl ?_); refine goesL_ (some 10) rfl rfl Try.func23 (by kernel_rfl) rfl #[.slice A0 l0.length c0] rfl (by (try simp only [List.map_toArray, List.map_cons, List.map_nil]); first | done | rfl | (simp only [List.length_drop, List.length_take]; rfl)) ?_; (with_reducible refine (imageeditorref07_Rising.calls k _ _ l0 false _ ?side1 ?side2 A4.out).mono ?_); (case side1 => repeat (first | exact HR0.out | (with_reducible refine Kd.C_alloc ?_ _) | (with_reducible refine Kd.C_drewN ?_ _) | (with_reducible refine Kd.C_drew ?_))); (case side2 => exact HC0.out); rintro e w' ⟨rfl, ⟨nd, rfl⟩⟩; refine ⟨_, rfl, ?_⟩) | ((with_reducible refine gate_callee (f := 30) rfl ?_); refine goesL_ (some 14) rfl rfl Try.func30 (by kernel_rfl) rfl #[.slice A0 l0.length c0, .int .i64 a2] rfl (by (try simp only [List.map_toArray, List.map_cons, List.map_nil]); first | done | rfl | (simp only [List.length_drop, List.length_take]; rfl)) ?_; (with_reducible refine (curve_Back.calls k _ _ l0 a2 t165 _ ?side1 ?side2 A33.out).mono ?_); (case side1 => repeat (first | exact HR0.out | (with_reducible refine Kd.C_alloc ?_ _) | (with_reducible refine Kd.C_drewN ?_ _) | (with_reducible refine Kd.C_drew ?_))); (case side2 => exact HC0.out); rintro e w36 ⟨rfl, hb⟩; refine ⟨_, rfl, ?_⟩; have n0_ := Aside0.mk (below_step (by repeat (first | (with_reducible first | exact HB.out | apply below_alloc | apply pw_below_drewN | apply below_drew1) | exact HB.out)) hb); clear HB; have HB := n0_; clear n0_; (try clear hb); (try clear hb2); (try clear hk); (try clear hi)) | (go_at_call 24; (with_reducible refine (imageeditorlaw07_example.calls k  t166 _ A35.out).mono ?_); rintro e w37 ⟨rfl, hb⟩; have n0_ := Aside0.mk (below_step (by repeat (first | (with_reducible first | exact HB.out | apply below_alloc | apply pw_below_drewN | apply below_drew1) | exact HB.out)) hb); clear HB; have HB := n0_; clear n0_; (try clear hb); (try clear hb2); (try clear hk); (try clear hi)))
      go_ret
      exact ⟨by first | rfl | (simp [errW_none, errW_some] <;> rfl) | (simp [*, errW_none, errW_some] <;> rfl), by repeat (first | (with_reducible first | exact HB.out | apply below_alloc | apply pw_below_drewN | apply below_drew1) | exact HB.out)⟩
    · rw [if_neg c34] at H
      have c34b0 : (t165 == (-1)) = false := beq_eq_false_iff_ne.mpr c34
      have c34b1 : (t165 != (-1)) = true := bne_iff_ne.mpr c34
      obtain rfl := Option.some.inj H
      go_enter Try.func11, Try.ntmps11
      go_wp2_with (first | ((with_reducible refine gate_callee (f := 23) rfl ?_); refine goesL_ (some 10) rfl rfl Try.func23 (by kernel_rfl) rfl #[.slice A0 l0.length c0] rfl (by (try simp only [List.map_toArray, List.map_cons, List.map_nil]); first | done | rfl | (simp only [List.length_drop, List.length_take]; rfl)) ?_; (with_reducible refine (imageeditorref07_Rising.calls k _ _ l0 false _ ?side1 ?side2 A4.out).mono ?_); (case side1 => repeat (first | exact HR0.out | (with_reducible refine Kd.C_alloc ?_ _) | (with_reducible refine Kd.C_drewN ?_ _) | (with_reducible refine Kd.C_drew ?_))); (case side2 => exact HC0.out); rintro e w' ⟨rfl, ⟨nd, rfl⟩⟩; refine ⟨_, rfl, ?_⟩) | ((with_reducible refine gate_callee (f := 30) rfl ?_); refine goesL_ (some 14) rfl rfl Try.func30 (by kernel_rfl) rfl #[.slice A0 l0.length c0, .int .i64 a2] rfl (by (try simp only [List.map_toArray, List.map_cons, List.map_nil]); first | done | rfl | (simp only [List.length_drop, List.length_take]; rfl)) ?_; (with_reducible refine (curve_Back.calls k _ _ l0 a2 t165 _ ?side1 ?side2 A33.out).mono ?_); (case side1 => repeat (first | exact HR0.out | (with_reducible refine Kd.C_alloc ?_ _) | (with_reducible refine Kd.C_drewN ?_ _) | (with_reducible refine Kd.C_drew ?_))); (case side2 => exact HC0.out); rintro e w38 ⟨rfl, hb⟩; refine ⟨_, rfl, ?_⟩; have n0_ := Aside0.mk (below_step (by repeat (first | (with_reducible first | exact HB.out | apply below_alloc | apply pw_below_drewN | apply below_drew1) | exact HB.out)) hb); clear HB; have HB := n0_; clear n0_; (try clear hb); (try clear hb2); (try clear hk); (try clear hi)))
      go_ret
      exact ⟨by first | rfl | (simp [errW_none, errW_some] <;> rfl) | (simp [*, errW_none, errW_some] <;> rfl), by repeat (first | (with_reducible first | exact HB.out | apply below_alloc | apply pw_below_drewN | apply below_drew1) | exact HB.out)⟩

end Go.Proofs.Ytmgpmpiondciiaa.PCurveLeast
