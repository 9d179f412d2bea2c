/- Slices of structs that came in, opened to lists of plain numbers: the kind's own reading 'Kd.C', for every element kind whose cells can be told. No condition. -/
import Derived.Test.YtmgpmpiondciiaaProg
import Derived.Deep.Slices
import Derived.WalkKit
import Derived.ProofKit
import Derived.Test.YtmgpmpiondciiaaWWords
namespace Go.Proofs.Ytmgpmpiondciiaa.Opened
open Go.ChangeShapes Go.WideShapes Go.Deep Go.Proofs.YtmgpmpiondciiaaW.PrintWords
section
variable {H : Type} {enc : TypeId × Value → H} {P : Program} {w : World} {base : Nat} {spare : Nat → Bool} {held : Bool}

/-- A whole number's cell. -/
theorem int_cell {t : TypeId} {k : IntKind} {n : Nat} {cs : List Value} {y : DataW H × List MemPlace} (ht : P.underlying t = some (.int k)) (h : DataW.trod enc P w base spare held n t cs = some y) : ∃ x, cs = [.int k x] ∧ (Lit.int k x).wf = true := by
  obtain ⟨x, h1, _, h2⟩ := DataW.trod_int ht h
  exact ⟨x, h1, h2⟩

/-- A slice whose elements' cells can be told by a kind reads as a list of that kind. -/
theorem slice_reads {α : Type} [Inhabited α] (d : Kd α) (Ok : α → Prop) {t e : TypeId} {a : Option Addr} {len cap : Nat} {x : DataW H} {ps : List MemPlace}
    (ht : P.underlying t = some (.slice e)) (hC : P.cellsOf e = d.sz)
    (hd : ∀ (n : Nat) (cs : List Value) (y : DataW H × List MemPlace), DataW.trod enc P w base spare held n e cs = some y → ∃ v, d.K w v cs ∧ Ok v)
    (h : DataW.Trod enc P w base spare held t (.slice a len cap) x ps) :
    ∃ l : List α, l.length = len ∧ len ≤ cap ∧ d.C w a len l ∧ ∀ v ∈ l, Ok v := by
  obtain ⟨fuel, hf⟩ := h
  rcases open_slice ht hf with ⟨hcs, _⟩ | ⟨ad, len', cap', m, n, D, Pl, hcs, _, hl, hm, hmm, _, hi⟩
  · simp [Value.cells] at hcs
    obtain ⟨rfl, rfl, rfl⟩ := hcs
    exact ⟨[], rfl, Nat.le_refl _, Kd.C_nil d w, fun v hv => by cases hv⟩
  · simp [Value.cells] at hcs
    obtain ⟨rfl, rfl, rfl⟩ := hcs
    have hlm : len ≤ m := by
      rw [hmm]
      split
      · exact hl
      · exact Nat.le_refl _
    have key : ∀ i, i < len → ∃ v : α, ∃ cs', w.cells? base (ad.add (i * P.cellsOf e)) (P.cellsOf e) = some cs' ∧ d.K w v cs' ∧ Ok v := by
      intro i h1
      obtain ⟨cs', hc, htr⟩ := hi i (by omega)
      obtain ⟨v, hv, ho⟩ := hd n cs' _ htr
      exact ⟨v, cs', hc, hv, ho⟩
    obtain ⟨f, hf2⟩ := choose_lt key
    refine ⟨(List.range len).map f, by simp, hl, ⟨by simp, ?_, fun _ => ⟨ad, rfl, ?_⟩⟩, ?_⟩
    · have : maxLen = 9223372036854775807 := rfl
      omega
    · intro j p hj
      have hjl : j < len := by
        have := (List.getElem?_eq_some_iff.1 hj).1
        simpa using this
      have hp : f j = p := by
        simpa [hjl] using hj
      obtain ⟨cs', hc, hv, _⟩ := hf2 j hjl
      obtain ⟨_, hlen, hcell⟩ := World.cells?_some hc
      refine ⟨cs', by rw [hlen, hC], by rw [← hp]; exact hv, fun i u hu => ?_⟩
      have hil : i < P.cellsOf e := by
        have := (List.getElem?_eq_some_iff.1 hu).1
        omega
      have h3 := hcell i hil
      rw [Go.Deep.add_add, hC] at h3
      rw [h3, hu]
    · intro v hv
      obtain ⟨i, hi', rfl⟩ := List.mem_map.1 hv
      obtain ⟨_, _, _, ho⟩ := hf2 i (by simpa using hi')
      exact ho
end

/-- The numbers of an int are in its range. -/
theorem wf_range {x : Int} (h : (Lit.int .i64 x).wf = true) : -9223372036854775808 ≤ x ∧ x ≤ 9223372036854775807 := by
  have hmin : IntKind.i64.min = -9223372036854775808 := rfl
  have hmax : IntKind.i64.max = 9223372036854775807 := rfl
  simp only [Lit.wf, Bool.and_eq_true, decide_eq_true_eq] at h
  omega

section
variable {H : Type} {enc : TypeId × Value → H} {w : World} {base : Nat} {spare : Nat → Bool} {held : Bool}
theorem cells42 : Try.prog.cellsOf 42 = 2 := by kernel_rfl
theorem cells45 : Try.prog.cellsOf 45 = 4 := by kernel_rfl
theorem cells74 : Try.prog.cellsOf 74 = 5 := by kernel_rfl
theorem cells3 : Try.prog.cellsOf 3 = 1 := by kernel_rfl

/-- A knot's cells: two numbers. -/
theorem knot_cells {n : Nat} {cs : List Value} {y : DataW H × List MemPlace} (h : DataW.trod enc Try.prog w base spare held n 42 cs = some y) :
    ∃ a b : Int, cs = [.int .i64 a, .int .i64 b] ∧ (Lit.int .i64 a).wf = true ∧ (Lit.int .i64 b).wf = true := by
  obtain ⟨xs, m, _, _, hl, hxs, hf⟩ := DataW.trod_struct Try.underlying42 h
  rw [cells42] at hl
  match cs, hl with
  | [c0, c1], _ =>
    match xs, hxs with
    | [x0, x1], _ =>
      have h0 : DataW.trod enc Try.prog w base spare held m 3 (([c0, c1].drop 0).take (Try.prog.cellsOf 3)) = some x0 := hf 0 _ rfl
      have h1 : DataW.trod enc Try.prog w base spare held m 3 (([c0, c1].drop 1).take (Try.prog.cellsOf 3)) = some x1 := hf 1 _ rfl
      rw [cells3] at h0 h1
      obtain ⟨a, e0, w0⟩ := int_cell (k := .i64) Try.underlying3 h0
      obtain ⟨b, e1, w1⟩ := int_cell (k := .i64) Try.underlying3 h1
      simp at e0 e1
      subst e0 e1
      exact ⟨a, b, rfl, w0, w1⟩

/-- A pixel's cells: four numbers. -/
theorem pixel_cells {n : Nat} {cs : List Value} {y : DataW H × List MemPlace} (h : DataW.trod enc Try.prog w base spare held n 45 cs = some y) :
    ∃ a b c d : Int, cs = [.int .i64 a, .int .i64 b, .int .i64 c, .int .i64 d] ∧ (Lit.int .i64 a).wf = true ∧ (Lit.int .i64 b).wf = true ∧ (Lit.int .i64 c).wf = true ∧ (Lit.int .i64 d).wf = true := by
  obtain ⟨xs, m, _, _, hl, hxs, hf⟩ := DataW.trod_struct Try.underlying45 h
  rw [cells45] at hl
  match cs, hl with
  | [c0, c1, c2, c3], _ =>
    match xs, hxs with
    | [x0, x1, x2, x3], _ =>
      have h0 : DataW.trod enc Try.prog w base spare held m 3 (([c0, c1, c2, c3].drop 0).take (Try.prog.cellsOf 3)) = some x0 := hf 0 _ rfl
      have h1 : DataW.trod enc Try.prog w base spare held m 3 (([c0, c1, c2, c3].drop 1).take (Try.prog.cellsOf 3)) = some x1 := hf 1 _ rfl
      have h2 : DataW.trod enc Try.prog w base spare held m 3 (([c0, c1, c2, c3].drop 2).take (Try.prog.cellsOf 3)) = some x2 := hf 2 _ rfl
      have h3 : DataW.trod enc Try.prog w base spare held m 3 (([c0, c1, c2, c3].drop 3).take (Try.prog.cellsOf 3)) = some x3 := hf 3 _ rfl
      rw [cells3] at h0 h1 h2 h3
      obtain ⟨a, e0, w0⟩ := int_cell (k := .i64) Try.underlying3 h0
      obtain ⟨b, e1, w1⟩ := int_cell (k := .i64) Try.underlying3 h1
      obtain ⟨c, e2, w2⟩ := int_cell (k := .i64) Try.underlying3 h2
      obtain ⟨d, e3, w3⟩ := int_cell (k := .i64) Try.underlying3 h3
      simp at e0 e1 e2 e3
      subst e0 e1 e2 e3
      exact ⟨a, b, c, d, rfl, w0, w1, w2, w3⟩

/-- A stop's cells: its place and its color's four numbers. -/
theorem stop_cells {n : Nat} {cs : List Value} {y : DataW H × List MemPlace} (h : DataW.trod enc Try.prog w base spare held n 74 cs = some y) :
    ∃ p a b c d : Int, cs = [.int .i64 p, .int .i64 a, .int .i64 b, .int .i64 c, .int .i64 d] ∧ (Lit.int .i64 p).wf = true ∧ (Lit.int .i64 a).wf = true ∧ (Lit.int .i64 b).wf = true ∧ (Lit.int .i64 c).wf = true ∧ (Lit.int .i64 d).wf = true := by
  obtain ⟨xs, m, _, _, hl, hxs, hf⟩ := DataW.trod_struct Try.underlying74 h
  rw [cells74] at hl
  match cs, hl with
  | [c0, c1, c2, c3, c4], _ =>
    match xs, hxs with
    | [x0, x1], _ =>
      have h0 : DataW.trod enc Try.prog w base spare held m 3 (([c0, c1, c2, c3, c4].drop 0).take (Try.prog.cellsOf 3)) = some x0 := hf 0 _ rfl
      have h1 : DataW.trod enc Try.prog w base spare held m 45 (([c0, c1, c2, c3, c4].drop 1).take (Try.prog.cellsOf 45)) = some x1 := hf 1 _ rfl
      rw [cells3] at h0
      rw [cells45] at h1
      obtain ⟨p, e0, w0⟩ := int_cell (k := .i64) Try.underlying3 h0
      obtain ⟨a, b, c, d, e1, wa, wb, wc, wd⟩ := pixel_cells h1
      simp at e0 e1
      obtain ⟨rfl, rfl, rfl, rfl⟩ := e1
      subst e0
      exact ⟨p, a, b, c, d, rfl, w0, wa, wb, wc, wd⟩
end
end Go.Proofs.Ytmgpmpiondciiaa.Opened
