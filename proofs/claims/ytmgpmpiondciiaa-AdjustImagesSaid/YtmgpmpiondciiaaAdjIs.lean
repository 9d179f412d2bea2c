/- imageeditorlaw17.is and gray as contracts, and slices of whole numbers that a literal made. No condition but those of each theorem. -/
import Derived.Test.YtmgpmpiondciiaaAdjAll
import Derived.ChangeKeysEq
namespace Go.Proofs.Ytmgpmpiondciiaa.Adj
open Go.RowKit Go.Proofs.Ytmgpmpiondciiaa.PAdjustImages Go.Proofs.YtmgpmpiondciiaaW.PrintWords Go.Proofs.YtmgpmpiondciiaaW.PrintMore Go.Proofs.Ytmgpmpiondciiaa.Plain
theorem ints_none (w : World) : Ints w none [] := Kd.C_of_reads (enc := Value.int .i64) (d := (0 : Int)) ⟨rfl, by simp, fun h => absurd h (by simp)⟩
theorem stops_none (w : World) : Kd.C k74 w none ([] : List S74).length [] := (Kd.R_reads' (Kd.R_nil k74 74 w 0 (fun _ => True))).2.2
theorem ints_blk {w : World} {g t : Nat} {l : List Int} (h : w.heap[g]? = some (.cells (l.map (Value.int .i64)).toArray t (0, 0))) (hl : l.length ≤ 1000) : Ints w (some ⟨g, 0, none⟩) l := by
  refine Kd.C_of_reads (enc := Value.int .i64) (d := (0 : Int)) ⟨rfl, by omega, fun _ => ⟨⟨g, 0, none⟩, rfl, fun j hj => ?_⟩⟩
  have e : (⟨g, 0, none⟩ : Addr).add j = ⟨g, j, none⟩ := by
    by_cases h0 : j = 0
    · subst h0
      simp [Addr.add]
    · simp [Addr.add, h0]
  rw [e, blk_cell h j]
  simp [List.getElem?_eq_getElem hj, List.getD_eq_getElem?_getD]
set_option maxRecDepth 100000 in
theorem lgray_any (c : Int) (w : World) : Calls Try.prog 59 #[.int .i64 c] w fun e w' => e = .returned (.agg #[.int .i64 c, .int .i64 c, .int .i64 c, .int .i64 65535]) ∧ Below w.heap.size w w' := by
  have HB := Aside0.mk (Below.refl w.heap.size w)
  go_enter Try.func59, Try.ntmps59
  go_wp2_with fail
  refine bodyPost_ret (v := .agg #[.int .i64 c, .int .i64 c, .int .i64 c, .int .i64 65535]) (by simp [results, Try.results59, go_sem]) rfl ⟨rfl, ?_⟩
  repeat (first | exact HB.out | refine below_alloc ?_ _ | refine below_set ?_ (by omega))
set_option maxRecDepth 100000 in
set_option maxHeartbeats 3200000 in
theorem is_true (k : Int) (P : Option Addr) (cp : Nat) (l : List Int) (R G B A R1 G1 B1 A1 : Int) (w : World) (hp : Ints w P l) (hcp : l.length ≤ cp) (he : pixErr k l [] R G B A = 0) (ha : pixAns k l [] R G B A = ⟨R1, G1, B1, A1⟩) :
    Calls Try.prog 58 #[.int .i64 k, .slice P l.length cp, .agg #[.int .i64 R, .int .i64 G, .int .i64 B, .int .i64 A], .agg #[.int .i64 R1, .int .i64 G1, .int .i64 B1, .int .i64 A1]] w fun e w' => e = .returned (.bool true) ∧ Below w.heap.size w w' := by
  have HX : Aside0 (∀ w1, Below w.heap.size w w1 → Calls Try.prog 36 #[.int .i64 k, .slice P l.length cp, .slice none 0 0, .agg #[.int .i64 R, .int .i64 G, .int .i64 B, .int .i64 A]] w1 fun e w' => e = .returned (.tuple #[.agg #[.int .i64 R1, .int .i64 G1, .int .i64 B1, .int .i64 A1], .int .i64 0]) ∧ Below w1.heap.size w1 w') := ⟨fun w1 hb => by
    have := pixel_any k P cp l none 0 [] R G B A w1 (hp.below hb) hcp (stops_none w1) (by simp)
    rw [he, ha] at this
    exact this⟩
  clear hp he ha
  go_enter Try.func58, Try.ntmps58
  go_wp2_with fail
  generalize hW : (w.alloc (.cells #[.int .i64 R, .int .i64 G, .int .i64 B, .int .i64 A] 45)).alloc (.cells #[.int .i64 R1, .int .i64 G1, .int .i64 B1, .int .i64 A1] 45) = W
  obtain ⟨X0, X1, XB⟩ := two _ _ _ _ hW
  clear hW X0
  refine (HX.out W XB).mono ?_
  rintro e w1 ⟨rfl, hb⟩
  have Y1 := blk_below X1 hb
  have YB := Aside0.mk (step XB hb)
  have p0 := fun o => kept (below_alloc (Below.refl _ w1) o) ((blk_cell Y1 0).trans rfl : w1.cell? ⟨w.heap.size + 1, 0, none⟩ = some (.int .i64 R1))
  have p1 := fun o => kept (below_alloc (Below.refl _ w1) o) ((blk_cell Y1 1).trans rfl : w1.cell? ⟨w.heap.size + 1, 1, none⟩ = some (.int .i64 G1))
  have p2 := fun o => kept (below_alloc (Below.refl _ w1) o) ((blk_cell Y1 2).trans rfl : w1.cell? ⟨w.heap.size + 1, 2, none⟩ = some (.int .i64 B1))
  have p3 := fun o => kept (below_alloc (Below.refl _ w1) o) ((blk_cell Y1 3).trans rfl : w1.cell? ⟨w.heap.size + 1, 3, none⟩ = some (.int .i64 A1))
  clear X1 XB hb Y1
  dsimp only
  go_wp2
  go_ret
  exact ⟨rfl, below_alloc YB.out _⟩

/-! ### == of two [3]int -/
theorem cells3 : Try.prog.cellsOf 3 = 1 := by kernel_rfl
theorem infoI : (Try.prog.info? 3).map (fun i => (i.zero, i.size, i.bytes)) = some (some (.int .i64 0), 1, 8) := by kernel_rfl
theorem items_cons (xs ys : Array Value) (i : Nat) (is : List Nat) (x y : Int) (w : World) (hx : xs[i * 1]? = some (.int .i64 x)) (hy : ys[i * 1]? = some (.int .i64 y)) :
    (Op.eqItems 9999 3 1 xs ys (i :: is)).run Try.prog w = if x == y then (Op.eqItems 9999 3 1 xs ys is).run Try.prog w else .ok false w := by
  have hk : Try.prog.plainKey 3 = true := by kernel_rfl
  rw [Op.eqItems]
  simp only [Sem.run_bind, run_part_plain w hk hx, run_part_plain w hk hy, run_equalIn_int w 9998 3 .i64 .i64 x y Try.underlying3, Result.andThen_ok]
  cases x == y <;> simp
theorem eq_arr3 (a b c a' b' c' : Int) (w : World) : (Op.equalIn 10000 51 (.agg #[.int .i64 a, .int .i64 b, .int .i64 c]) (.agg #[.int .i64 a', .int .i64 b', .int .i64 c'])).run Try.prog w = .ok (a == a' && (b == b' && c == c')) w := by
  obtain ⟨i, hi, _⟩ := Option.map_eq_some_iff.1 infoI
  rw [run_equalIn_array w 9999 _ _ u51 hi, cells3, show List.range 3 = [0, 1, 2] from rfl, items_cons _ _ 0 _ a a' w rfl rfl, items_cons _ _ 1 _ b b' w rfl rfl, items_cons _ _ 2 _ c c' w rfl rfl]
  simp only [Op.eqItems, Sem.run_pure]
  cases a == a' <;> cases b == b' <;> cases c == c' <;> rfl
end Go.Proofs.Ytmgpmpiondciiaa.Adj
