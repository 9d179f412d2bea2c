/- adjust.each: a function applied to the three channels, one walk for each closure that apply hands it: whatever the closure answers and leaves. No condition but those of each theorem. -/
import Derived.Test.YtmgpmpiondciiaaAdjBase
namespace Go.Proofs.Ytmgpmpiondciiaa.Adj
open Go.RowKit Go.Proofs.Ytmgpmpiondciiaa.PAdjustImages Go.Proofs.YtmgpmpiondciiaaW.PrintWords

set_option maxRecDepth 100000 in
set_option maxHeartbeats 3200000 in
theorem each_76 (g : Int → Int) (R G B A : Int) (w : World) (r0 : 0 ≤ R) (r1 : R ≤ 65535) (g0 : 0 ≤ G) (g1 : G ≤ 65535) (b0 : 0 ≤ B) (b1 : B ≤ 65535)
    (hf : ∀ (c : Int) (w1 : World), 0 ≤ c → c ≤ 65535 → Below w.heap.size w w1 → Calls Try.prog 76 #[.int .i64 c] w1 fun e w' => e = .returned (.int .i64 (g c)) ∧ Below w1.heap.size w1 w') :
    Calls Try.prog 75 #[.agg #[.int .i64 R, .int .i64 G, .int .i64 B, .int .i64 A], .func (.func 76) #[] #[]] w fun e w' => e = .returned (.agg #[.int .i64 (g R), .int .i64 (g G), .int .i64 (g B), .int .i64 A]) ∧ Below w.heap.size w w' := by
  have HF := Lib.hid hf
  have HB := Aside0.mk (Below.refl w.heap.size w)
  clear hf
  go_enter Try.func75, Try.ntmps75
  go_wp2_with fail
  go_region_held3 (fun w' => w'.cell? ⟨w.heap.size, 0, none⟩ = some (.int .i64 R) ∧ w'.cell? ⟨w.heap.size, 1, none⟩ = some (.int .i64 G) ∧ w'.cell? ⟨w.heap.size, 2, none⟩ = some (.int .i64 B) ∧ w'.cell? ⟨w.heap.size, 3, none⟩ = some (.int .i64 A))
    (first | go_keep | exact ⟨kept hb (by assumption), kept hb (by assumption), kept hb (by assumption), kept hb (by assumption)⟩ | (go_split_ands; exact ⟨kept hb (by assumption), kept hb (by assumption), kept hb (by assumption), kept hb (by assumption)⟩))
    ((go_at_call 76; refine (HF.out _ _ ?_ ?_ ?_).mono ?_; assumption; assumption; (repeat (first | exact HB.out | refine below_alloc ?_ _ | refine pw_below_drewN ?_ _ | refine below_drew1 ?_)); rintro e w' ⟨rfl, hb⟩; have nb : Aside0 (Below w.heap.size w w') := ⟨step (by repeat (first | exact HB.out | refine below_alloc ?_ _ | refine pw_below_drewN ?_ _ | refine below_drew1 ?_)) hb⟩; clear HB; have HB := nb; clear nb; have hz0 : w'.cell? ⟨w.heap.size + 1, 0, none⟩ = some (.int .i64 0) := kept hb (by first | assumption | simp); have hf0 : w'.frozen? ⟨w.heap.size + 1, 0, none⟩ = false := keptF hb (.int .i64 0) (by first | assumption | simp) (by first | assumption | simp); have hz1 : w'.cell? ⟨w.heap.size + 1, 1, none⟩ = some (.int .i64 0) := kept hb (by first | assumption | simp); have hf1 : w'.frozen? ⟨w.heap.size + 1, 1, none⟩ = false := keptF hb (.int .i64 0) (by first | assumption | simp) (by first | assumption | simp); have hz2 : w'.cell? ⟨w.heap.size + 1, 2, none⟩ = some (.int .i64 0) := kept hb (by first | assumption | simp); have hf2 : w'.frozen? ⟨w.heap.size + 1, 2, none⟩ = false := keptF hb (.int .i64 0) (by first | assumption | simp) (by first | assumption | simp); have hz3 : w'.cell? ⟨w.heap.size + 1, 3, none⟩ = some (.int .i64 0) := kept hb (by first | assumption | simp); have hf3 : w'.frozen? ⟨w.heap.size + 1, 3, none⟩ = false := keptF hb (.int .i64 0) (by first | assumption | simp) (by first | assumption | simp)))
  go_wp2
  refine bodyPost_ret (v := .agg #[.int .i64 (g R), .int .i64 (g G), .int .i64 (g B), .int .i64 A]) (by simp [results, Try.results75, go_sem, hz0, hz1, hz2, hz3]) rfl ⟨rfl, ?_⟩
  repeat (first | exact HB.out | exact Nat.le_succ _ | refine below_set ?_ (Nat.le_succ _))

set_option maxRecDepth 100000 in
set_option maxHeartbeats 3200000 in
theorem each_77 (g : Int → Int) (ca : Addr) (R G B A : Int) (w : World) (r0 : 0 ≤ R) (r1 : R ≤ 65535) (g0 : 0 ≤ G) (g1 : G ≤ 65535) (b0 : 0 ≤ B) (b1 : B ≤ 65535)
    (hf : ∀ (c : Int) (w1 : World), 0 ≤ c → c ≤ 65535 → Below w.heap.size w w1 → Calls Try.prog 77 #[.int .i64 c, .pointer (some ca)] w1 fun e w' => e = .returned (.int .i64 (g c)) ∧ Below w1.heap.size w1 w') :
    Calls Try.prog 75 #[.agg #[.int .i64 R, .int .i64 G, .int .i64 B, .int .i64 A], .func (.func 77) #[] #[.pointer (some ca)]] w fun e w' => e = .returned (.agg #[.int .i64 (g R), .int .i64 (g G), .int .i64 (g B), .int .i64 A]) ∧ Below w.heap.size w w' := by
  have HF := Lib.hid hf
  have HB := Aside0.mk (Below.refl w.heap.size w)
  clear hf
  go_enter Try.func75, Try.ntmps75
  go_wp2_with fail
  go_region_held3 (fun w' => w'.cell? ⟨w.heap.size, 0, none⟩ = some (.int .i64 R) ∧ w'.cell? ⟨w.heap.size, 1, none⟩ = some (.int .i64 G) ∧ w'.cell? ⟨w.heap.size, 2, none⟩ = some (.int .i64 B) ∧ w'.cell? ⟨w.heap.size, 3, none⟩ = some (.int .i64 A))
    (first | go_keep | exact ⟨kept hb (by assumption), kept hb (by assumption), kept hb (by assumption), kept hb (by assumption)⟩ | (go_split_ands; exact ⟨kept hb (by assumption), kept hb (by assumption), kept hb (by assumption), kept hb (by assumption)⟩))
    ((go_at_call 77; refine (HF.out _ _ ?_ ?_ ?_).mono ?_; assumption; assumption; (repeat (first | exact HB.out | refine below_alloc ?_ _ | refine pw_below_drewN ?_ _ | refine below_drew1 ?_)); rintro e w' ⟨rfl, hb⟩; have nb : Aside0 (Below w.heap.size w w') := ⟨step (by repeat (first | exact HB.out | refine below_alloc ?_ _ | refine pw_below_drewN ?_ _ | refine below_drew1 ?_)) hb⟩; clear HB; have HB := nb; clear nb; have hz0 : w'.cell? ⟨w.heap.size + 1, 0, none⟩ = some (.int .i64 0) := kept hb (by first | assumption | simp); have hf0 : w'.frozen? ⟨w.heap.size + 1, 0, none⟩ = false := keptF hb (.int .i64 0) (by first | assumption | simp) (by first | assumption | simp); have hz1 : w'.cell? ⟨w.heap.size + 1, 1, none⟩ = some (.int .i64 0) := kept hb (by first | assumption | simp); have hf1 : w'.frozen? ⟨w.heap.size + 1, 1, none⟩ = false := keptF hb (.int .i64 0) (by first | assumption | simp) (by first | assumption | simp); have hz2 : w'.cell? ⟨w.heap.size + 1, 2, none⟩ = some (.int .i64 0) := kept hb (by first | assumption | simp); have hf2 : w'.frozen? ⟨w.heap.size + 1, 2, none⟩ = false := keptF hb (.int .i64 0) (by first | assumption | simp) (by first | assumption | simp); have hz3 : w'.cell? ⟨w.heap.size + 1, 3, none⟩ = some (.int .i64 0) := kept hb (by first | assumption | simp); have hf3 : w'.frozen? ⟨w.heap.size + 1, 3, none⟩ = false := keptF hb (.int .i64 0) (by first | assumption | simp) (by first | assumption | simp)))
  go_wp2
  refine bodyPost_ret (v := .agg #[.int .i64 (g R), .int .i64 (g G), .int .i64 (g B), .int .i64 A]) (by simp [results, Try.results75, go_sem, hz0, hz1, hz2, hz3]) rfl ⟨rfl, ?_⟩
  repeat (first | exact HB.out | exact Nat.le_succ _ | refine below_set ?_ (Nat.le_succ _))

set_option maxRecDepth 100000 in
set_option maxHeartbeats 3200000 in
theorem each_79 (g : Int → Int) (ca : Addr) (R G B A : Int) (w : World) (r0 : 0 ≤ R) (r1 : R ≤ 65535) (g0 : 0 ≤ G) (g1 : G ≤ 65535) (b0 : 0 ≤ B) (b1 : B ≤ 65535)
    (hf : ∀ (c : Int) (w1 : World), 0 ≤ c → c ≤ 65535 → Below w.heap.size w w1 → Calls Try.prog 79 #[.int .i64 c, .pointer (some ca)] w1 fun e w' => e = .returned (.int .i64 (g c)) ∧ Below w1.heap.size w1 w') :
    Calls Try.prog 75 #[.agg #[.int .i64 R, .int .i64 G, .int .i64 B, .int .i64 A], .func (.func 79) #[] #[.pointer (some ca)]] w fun e w' => e = .returned (.agg #[.int .i64 (g R), .int .i64 (g G), .int .i64 (g B), .int .i64 A]) ∧ Below w.heap.size w w' := by
  have HF := Lib.hid hf
  have HB := Aside0.mk (Below.refl w.heap.size w)
  clear hf
  go_enter Try.func75, Try.ntmps75
  go_wp2_with fail
  go_region_held3 (fun w' => w'.cell? ⟨w.heap.size, 0, none⟩ = some (.int .i64 R) ∧ w'.cell? ⟨w.heap.size, 1, none⟩ = some (.int .i64 G) ∧ w'.cell? ⟨w.heap.size, 2, none⟩ = some (.int .i64 B) ∧ w'.cell? ⟨w.heap.size, 3, none⟩ = some (.int .i64 A))
    (first | go_keep | exact ⟨kept hb (by assumption), kept hb (by assumption), kept hb (by assumption), kept hb (by assumption)⟩ | (go_split_ands; exact ⟨kept hb (by assumption), kept hb (by assumption), kept hb (by assumption), kept hb (by assumption)⟩))
    ((go_at_call 79; refine (HF.out _ _ ?_ ?_ ?_).mono ?_; assumption; assumption; (repeat (first | exact HB.out | refine below_alloc ?_ _ | refine pw_below_drewN ?_ _ | refine below_drew1 ?_)); rintro e w' ⟨rfl, hb⟩; have nb : Aside0 (Below w.heap.size w w') := ⟨step (by repeat (first | exact HB.out | refine below_alloc ?_ _ | refine pw_below_drewN ?_ _ | refine below_drew1 ?_)) hb⟩; clear HB; have HB := nb; clear nb; have hz0 : w'.cell? ⟨w.heap.size + 1, 0, none⟩ = some (.int .i64 0) := kept hb (by first | assumption | simp); have hf0 : w'.frozen? ⟨w.heap.size + 1, 0, none⟩ = false := keptF hb (.int .i64 0) (by first | assumption | simp) (by first | assumption | simp); have hz1 : w'.cell? ⟨w.heap.size + 1, 1, none⟩ = some (.int .i64 0) := kept hb (by first | assumption | simp); have hf1 : w'.frozen? ⟨w.heap.size + 1, 1, none⟩ = false := keptF hb (.int .i64 0) (by first | assumption | simp) (by first | assumption | simp); have hz2 : w'.cell? ⟨w.heap.size + 1, 2, none⟩ = some (.int .i64 0) := kept hb (by first | assumption | simp); have hf2 : w'.frozen? ⟨w.heap.size + 1, 2, none⟩ = false := keptF hb (.int .i64 0) (by first | assumption | simp) (by first | assumption | simp); have hz3 : w'.cell? ⟨w.heap.size + 1, 3, none⟩ = some (.int .i64 0) := kept hb (by first | assumption | simp); have hf3 : w'.frozen? ⟨w.heap.size + 1, 3, none⟩ = false := keptF hb (.int .i64 0) (by first | assumption | simp) (by first | assumption | simp)))
  go_wp2
  refine bodyPost_ret (v := .agg #[.int .i64 (g R), .int .i64 (g G), .int .i64 (g B), .int .i64 A]) (by simp [results, Try.results75, go_sem, hz0, hz1, hz2, hz3]) rfl ⟨rfl, ?_⟩
  repeat (first | exact HB.out | exact Nat.le_succ _ | refine below_set ?_ (Nat.le_succ _))

set_option maxRecDepth 100000 in
set_option maxHeartbeats 3200000 in
theorem each_80 (g : Int → Int) (ca : Addr) (R G B A : Int) (w : World) (r0 : 0 ≤ R) (r1 : R ≤ 65535) (g0 : 0 ≤ G) (g1 : G ≤ 65535) (b0 : 0 ≤ B) (b1 : B ≤ 65535)
    (hf : ∀ (c : Int) (w1 : World), 0 ≤ c → c ≤ 65535 → Below w.heap.size w w1 → Calls Try.prog 80 #[.int .i64 c, .pointer (some ca)] w1 fun e w' => e = .returned (.int .i64 (g c)) ∧ Below w1.heap.size w1 w') :
    Calls Try.prog 75 #[.agg #[.int .i64 R, .int .i64 G, .int .i64 B, .int .i64 A], .func (.func 80) #[] #[.pointer (some ca)]] w fun e w' => e = .returned (.agg #[.int .i64 (g R), .int .i64 (g G), .int .i64 (g B), .int .i64 A]) ∧ Below w.heap.size w w' := by
  have HF := Lib.hid hf
  have HB := Aside0.mk (Below.refl w.heap.size w)
  clear hf
  go_enter Try.func75, Try.ntmps75
  go_wp2_with fail
  go_region_held3 (fun w' => w'.cell? ⟨w.heap.size, 0, none⟩ = some (.int .i64 R) ∧ w'.cell? ⟨w.heap.size, 1, none⟩ = some (.int .i64 G) ∧ w'.cell? ⟨w.heap.size, 2, none⟩ = some (.int .i64 B) ∧ w'.cell? ⟨w.heap.size, 3, none⟩ = some (.int .i64 A))
    (first | go_keep | exact ⟨kept hb (by assumption), kept hb (by assumption), kept hb (by assumption), kept hb (by assumption)⟩ | (go_split_ands; exact ⟨kept hb (by assumption), kept hb (by assumption), kept hb (by assumption), kept hb (by assumption)⟩))
    ((go_at_call 80; refine (HF.out _ _ ?_ ?_ ?_).mono ?_; assumption; assumption; (repeat (first | exact HB.out | refine below_alloc ?_ _ | refine pw_below_drewN ?_ _ | refine below_drew1 ?_)); rintro e w' ⟨rfl, hb⟩; have nb : Aside0 (Below w.heap.size w w') := ⟨step (by repeat (first | exact HB.out | refine below_alloc ?_ _ | refine pw_below_drewN ?_ _ | refine below_drew1 ?_)) hb⟩; clear HB; have HB := nb; clear nb; have hz0 : w'.cell? ⟨w.heap.size + 1, 0, none⟩ = some (.int .i64 0) := kept hb (by first | assumption | simp); have hf0 : w'.frozen? ⟨w.heap.size + 1, 0, none⟩ = false := keptF hb (.int .i64 0) (by first | assumption | simp) (by first | assumption | simp); have hz1 : w'.cell? ⟨w.heap.size + 1, 1, none⟩ = some (.int .i64 0) := kept hb (by first | assumption | simp); have hf1 : w'.frozen? ⟨w.heap.size + 1, 1, none⟩ = false := keptF hb (.int .i64 0) (by first | assumption | simp) (by first | assumption | simp); have hz2 : w'.cell? ⟨w.heap.size + 1, 2, none⟩ = some (.int .i64 0) := kept hb (by first | assumption | simp); have hf2 : w'.frozen? ⟨w.heap.size + 1, 2, none⟩ = false := keptF hb (.int .i64 0) (by first | assumption | simp) (by first | assumption | simp); have hz3 : w'.cell? ⟨w.heap.size + 1, 3, none⟩ = some (.int .i64 0) := kept hb (by first | assumption | simp); have hf3 : w'.frozen? ⟨w.heap.size + 1, 3, none⟩ = false := keptF hb (.int .i64 0) (by first | assumption | simp) (by first | assumption | simp)))
  go_wp2
  refine bodyPost_ret (v := .agg #[.int .i64 (g R), .int .i64 (g G), .int .i64 (g B), .int .i64 A]) (by simp [results, Try.results75, go_sem, hz0, hz1, hz2, hz3]) rfl ⟨rfl, ?_⟩
  repeat (first | exact HB.out | exact Nat.le_succ _ | refine below_set ?_ (Nat.le_succ _))

set_option maxRecDepth 100000 in
set_option maxHeartbeats 3200000 in
theorem each_84 (g : Int → Int) (ca : Addr) (R G B A : Int) (w : World) (r0 : 0 ≤ R) (r1 : R ≤ 65535) (g0 : 0 ≤ G) (g1 : G ≤ 65535) (b0 : 0 ≤ B) (b1 : B ≤ 65535)
    (hf : ∀ (c : Int) (w1 : World), 0 ≤ c → c ≤ 65535 → Below w.heap.size w w1 → Calls Try.prog 84 #[.int .i64 c, .pointer (some ca)] w1 fun e w' => e = .returned (.int .i64 (g c)) ∧ Below w1.heap.size w1 w') :
    Calls Try.prog 75 #[.agg #[.int .i64 R, .int .i64 G, .int .i64 B, .int .i64 A], .func (.func 84) #[] #[.pointer (some ca)]] w fun e w' => e = .returned (.agg #[.int .i64 (g R), .int .i64 (g G), .int .i64 (g B), .int .i64 A]) ∧ Below w.heap.size w w' := by
  have HF := Lib.hid hf
  have HB := Aside0.mk (Below.refl w.heap.size w)
  clear hf
  go_enter Try.func75, Try.ntmps75
  go_wp2_with fail
  go_region_held3 (fun w' => w'.cell? ⟨w.heap.size, 0, none⟩ = some (.int .i64 R) ∧ w'.cell? ⟨w.heap.size, 1, none⟩ = some (.int .i64 G) ∧ w'.cell? ⟨w.heap.size, 2, none⟩ = some (.int .i64 B) ∧ w'.cell? ⟨w.heap.size, 3, none⟩ = some (.int .i64 A))
    (first | go_keep | exact ⟨kept hb (by assumption), kept hb (by assumption), kept hb (by assumption), kept hb (by assumption)⟩ | (go_split_ands; exact ⟨kept hb (by assumption), kept hb (by assumption), kept hb (by assumption), kept hb (by assumption)⟩))
    ((go_at_call 84; refine (HF.out _ _ ?_ ?_ ?_).mono ?_; assumption; assumption; (repeat (first | exact HB.out | refine below_alloc ?_ _ | refine pw_below_drewN ?_ _ | refine below_drew1 ?_)); rintro e w' ⟨rfl, hb⟩; have nb : Aside0 (Below w.heap.size w w') := ⟨step (by repeat (first | exact HB.out | refine below_alloc ?_ _ | refine pw_below_drewN ?_ _ | refine below_drew1 ?_)) hb⟩; clear HB; have HB := nb; clear nb; have hz0 : w'.cell? ⟨w.heap.size + 1, 0, none⟩ = some (.int .i64 0) := kept hb (by first | assumption | simp); have hf0 : w'.frozen? ⟨w.heap.size + 1, 0, none⟩ = false := keptF hb (.int .i64 0) (by first | assumption | simp) (by first | assumption | simp); have hz1 : w'.cell? ⟨w.heap.size + 1, 1, none⟩ = some (.int .i64 0) := kept hb (by first | assumption | simp); have hf1 : w'.frozen? ⟨w.heap.size + 1, 1, none⟩ = false := keptF hb (.int .i64 0) (by first | assumption | simp) (by first | assumption | simp); have hz2 : w'.cell? ⟨w.heap.size + 1, 2, none⟩ = some (.int .i64 0) := kept hb (by first | assumption | simp); have hf2 : w'.frozen? ⟨w.heap.size + 1, 2, none⟩ = false := keptF hb (.int .i64 0) (by first | assumption | simp) (by first | assumption | simp); have hz3 : w'.cell? ⟨w.heap.size + 1, 3, none⟩ = some (.int .i64 0) := kept hb (by first | assumption | simp); have hf3 : w'.frozen? ⟨w.heap.size + 1, 3, none⟩ = false := keptF hb (.int .i64 0) (by first | assumption | simp) (by first | assumption | simp)))
  go_wp2
  refine bodyPost_ret (v := .agg #[.int .i64 (g R), .int .i64 (g G), .int .i64 (g B), .int .i64 A]) (by simp [results, Try.results75, go_sem, hz0, hz1, hz2, hz3]) rfl ⟨rfl, ?_⟩
  repeat (first | exact HB.out | exact Nat.le_succ _ | refine below_set ?_ (Nat.le_succ _))

set_option maxRecDepth 100000 in
set_option maxHeartbeats 3200000 in
theorem each_87 (g : Int → Int) (ca : Addr) (R G B A : Int) (w : World) (r0 : 0 ≤ R) (r1 : R ≤ 65535) (g0 : 0 ≤ G) (g1 : G ≤ 65535) (b0 : 0 ≤ B) (b1 : B ≤ 65535)
    (hf : ∀ (c : Int) (w1 : World), 0 ≤ c → c ≤ 65535 → Below w.heap.size w w1 → Calls Try.prog 87 #[.int .i64 c, .pointer (some ca)] w1 fun e w' => e = .returned (.int .i64 (g c)) ∧ Below w1.heap.size w1 w') :
    Calls Try.prog 75 #[.agg #[.int .i64 R, .int .i64 G, .int .i64 B, .int .i64 A], .func (.func 87) #[] #[.pointer (some ca)]] w fun e w' => e = .returned (.agg #[.int .i64 (g R), .int .i64 (g G), .int .i64 (g B), .int .i64 A]) ∧ Below w.heap.size w w' := by
  have HF := Lib.hid hf
  have HB := Aside0.mk (Below.refl w.heap.size w)
  clear hf
  go_enter Try.func75, Try.ntmps75
  go_wp2_with fail
  go_region_held3 (fun w' => w'.cell? ⟨w.heap.size, 0, none⟩ = some (.int .i64 R) ∧ w'.cell? ⟨w.heap.size, 1, none⟩ = some (.int .i64 G) ∧ w'.cell? ⟨w.heap.size, 2, none⟩ = some (.int .i64 B) ∧ w'.cell? ⟨w.heap.size, 3, none⟩ = some (.int .i64 A))
    (first | go_keep | exact ⟨kept hb (by assumption), kept hb (by assumption), kept hb (by assumption), kept hb (by assumption)⟩ | (go_split_ands; exact ⟨kept hb (by assumption), kept hb (by assumption), kept hb (by assumption), kept hb (by assumption)⟩))
    ((go_at_call 87; refine (HF.out _ _ ?_ ?_ ?_).mono ?_; assumption; assumption; (repeat (first | exact HB.out | refine below_alloc ?_ _ | refine pw_below_drewN ?_ _ | refine below_drew1 ?_)); rintro e w' ⟨rfl, hb⟩; have nb : Aside0 (Below w.heap.size w w') := ⟨step (by repeat (first | exact HB.out | refine below_alloc ?_ _ | refine pw_below_drewN ?_ _ | refine below_drew1 ?_)) hb⟩; clear HB; have HB := nb; clear nb; have hz0 : w'.cell? ⟨w.heap.size + 1, 0, none⟩ = some (.int .i64 0) := kept hb (by first | assumption | simp); have hf0 : w'.frozen? ⟨w.heap.size + 1, 0, none⟩ = false := keptF hb (.int .i64 0) (by first | assumption | simp) (by first | assumption | simp); have hz1 : w'.cell? ⟨w.heap.size + 1, 1, none⟩ = some (.int .i64 0) := kept hb (by first | assumption | simp); have hf1 : w'.frozen? ⟨w.heap.size + 1, 1, none⟩ = false := keptF hb (.int .i64 0) (by first | assumption | simp) (by first | assumption | simp); have hz2 : w'.cell? ⟨w.heap.size + 1, 2, none⟩ = some (.int .i64 0) := kept hb (by first | assumption | simp); have hf2 : w'.frozen? ⟨w.heap.size + 1, 2, none⟩ = false := keptF hb (.int .i64 0) (by first | assumption | simp) (by first | assumption | simp); have hz3 : w'.cell? ⟨w.heap.size + 1, 3, none⟩ = some (.int .i64 0) := kept hb (by first | assumption | simp); have hf3 : w'.frozen? ⟨w.heap.size + 1, 3, none⟩ = false := keptF hb (.int .i64 0) (by first | assumption | simp) (by first | assumption | simp)))
  go_wp2
  refine bodyPost_ret (v := .agg #[.int .i64 (g R), .int .i64 (g G), .int .i64 (g B), .int .i64 A]) (by simp [results, Try.results75, go_sem, hz0, hz1, hz2, hz3]) rfl ⟨rfl, ?_⟩
  repeat (first | exact HB.out | exact Nat.le_succ _ | refine below_set ?_ (Nat.le_succ _))
end Go.Proofs.Ytmgpmpiondciiaa.Adj
