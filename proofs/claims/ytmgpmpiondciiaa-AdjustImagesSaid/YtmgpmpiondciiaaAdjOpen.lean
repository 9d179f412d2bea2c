/- The adjust laws' arguments opened: whole numbers, lists of them, stops, pixels. No condition. -/
import Derived.Test.YtmgpmpiondciiaaOpen
import Derived.Test.YtmgpmpiondciiaaCore
import Derived.OpenShut
import Derived.ChangeOld
namespace Go.Proofs.Ytmgpmpiondciiaa.Opened
open Go.ChangeShapes Go.WideShapes Go.Deep Go.Proofs.YtmgpmpiondciiaaW.PrintWords Go.Proofs.Ytmgpmpiondciiaa.PAdjustImages
section
variable {H : Type} {enc : TypeId × Value → H} {w : World} {base : Nat} {spare : Nat → Bool} {held : Bool}
theorem ints_open {a : Option Addr} {len cap : Nat} {x : DataW H} {ps : List MemPlace} (h : DataW.Trod enc Try.prog w base spare held 32 (.slice a len cap) x ps) :
    ∃ l : List Int, l.length = len ∧ len ≤ cap ∧ Kd.C (Kd.int .i64) w a len l ∧ ∀ v ∈ l, (Lit.int .i64 v).wf = true := by
  refine slice_reads (Kd.int .i64) (fun v => (Lit.int .i64 v).wf = true) Try.underlying32 cells3 (fun n cs y hy => ?_) h
  obtain ⟨v, rfl, hw⟩ := int_cell (k := .i64) Try.underlying3 hy
  exact ⟨v, rfl, hw⟩
theorem stops_open {a : Option Addr} {len cap : Nat} {x : DataW H} {ps : List MemPlace} (h : DataW.Trod enc Try.prog w base spare held 33 (.slice a len cap) x ps) :
    ∃ l : List S74, l.length = len ∧ len ≤ cap ∧ Kd.C k74 w a len l := by
  haveI : Inhabited S74 := ⟨z74⟩
  obtain ⟨l, h1, h2, h3, _⟩ := slice_reads k74 (fun _ => True) Try.underlying33 cells74 (fun n cs y hy => by
    obtain ⟨p, a, b, c, d, rfl, _⟩ := stop_cells hy
    exact ⟨⟨p, ⟨a, b, c, d⟩⟩, k74_mk w ⟨p, ⟨a, b, c, d⟩⟩, trivial⟩) h
  exact ⟨l, h1, h2, h3⟩
theorem pixel_open {r : Reach} {b0 : Nat} {v : Value} {d : DataW H} {ps : List MemPlace} (hv : Value.okWide Try.prog w r b0 45 v) (h : DataW.Trod enc Try.prog w base spare held 45 v d ps) :
    ∃ a b c e : Int, v = .agg #[.int .i64 a, .int .i64 b, .int .i64 c, .int .i64 e] ∧ (Lit.int .i64 a).wf = true ∧ (Lit.int .i64 b).wf = true ∧ (Lit.int .i64 c).wf = true ∧ (Lit.int .i64 e).wf = true := by
  obtain ⟨cs, rfl, _⟩ := okWide_struct Try.underlying45 hv
  obtain ⟨fuel, hf⟩ := h
  obtain ⟨a, b, c, e, hc, w0, w1, w2, w3⟩ := pixel_cells hf
  have : cs = #[.int .i64 a, .int .i64 b, .int .i64 c, .int .i64 e] := by
    have h2 : cs.toList = [.int .i64 a, .int .i64 b, .int .i64 c, .int .i64 e] := by simpa [Value.cells] using hc
    exact Array.toList_inj.1 h2
  exact ⟨a, b, c, e, by rw [this], w0, w1, w2, w3⟩
theorem cells51 : Try.prog.cellsOf 51 = 3 := by kernel_rfl
theorem three_open {r : Reach} {b0 : Nat} {v : Value} {d : DataW H} {ps : List MemPlace} (hv : Value.okWide Try.prog w r b0 51 v) (h : DataW.Trod enc Try.prog w base spare held 51 v d ps) :
    ∃ a b c : Int, v = .agg #[.int .i64 a, .int .i64 b, .int .i64 c] := by
  have hv2 : ∃ cs, v = .agg cs ∧ cs.size = Try.prog.cellsOf 51 := by
    simp only [Value.okWide, Try.underlying51] at hv
    obtain ⟨cs, h1, h2, _⟩ := hv
    exact ⟨cs, h1, h2⟩
  obtain ⟨cs, rfl, hsz⟩ := hv2
  obtain ⟨fuel, hf⟩ := h
  have e : (Value.agg cs).cells = cs := by simp [Value.cells]
  rw [e] at hf
  obtain ⟨xs, m, _, _, hl, hxs, hfs⟩ := DataW.trod_array Try.underlying51 hf
  rw [cells51] at hl
  obtain ⟨cl⟩ := cs
  match cl, hl with
  | [c0, c1, c2], _ =>
    match xs, hxs with
    | [x0, x1, x2], _ =>
      have h0 : DataW.trod enc Try.prog w base spare held m 3 (([c0, c1, c2].drop (0 * Try.prog.cellsOf 3)).take (Try.prog.cellsOf 3)) = some x0 := hfs 0 (by decide)
      have h1 : DataW.trod enc Try.prog w base spare held m 3 (([c0, c1, c2].drop (1 * Try.prog.cellsOf 3)).take (Try.prog.cellsOf 3)) = some x1 := hfs 1 (by decide)
      have h2 : DataW.trod enc Try.prog w base spare held m 3 (([c0, c1, c2].drop (2 * Try.prog.cellsOf 3)).take (Try.prog.cellsOf 3)) = some x2 := hfs 2 (by decide)
      rw [cells3] at h0 h1 h2
      obtain ⟨a, e0, _⟩ := int_cell (k := .i64) Try.underlying3 h0
      obtain ⟨b, e1, _⟩ := int_cell (k := .i64) Try.underlying3 h1
      obtain ⟨c, e2, _⟩ := int_cell (k := .i64) Try.underlying3 h2
      simp at e0 e1 e2
      subst e0 e1 e2
      exact ⟨a, b, c, rfl⟩
theorem cells36 : Try.prog.cellsOf 36 = 3 := by kernel_rfl
theorem cells34 : Try.prog.cellsOf 34 = 1 := by kernel_rfl
theorem image_open {r : Reach} {b0 : Nat} {v : Value} {d : DataW H} {ps : List MemPlace} (hv : Value.okWide Try.prog w r b0 36 v) (h : DataW.Trod enc Try.prog w base spare held 36 v d ps) :
    ∃ (m n : Int) (A : Option Addr) (cap : Nat) (l : List S45), v = .agg #[.int .i64 m, .int .i64 n, .slice A l.length cap] ∧ l.length ≤ cap ∧ Kd.C k45 w A l.length l := by
  obtain ⟨cs, rfl, hsz⟩ := okWide_struct Try.underlying36 hv
  obtain ⟨fuel, hf⟩ := h
  have e : (Value.agg cs).cells = cs := by simp [Value.cells]
  rw [e] at hf
  obtain ⟨xs, m, _, _, hl, hxs, hfs⟩ := DataW.trod_struct Try.underlying36 hf
  rw [cells36] at hl
  obtain ⟨cl⟩ := cs
  match cl, hl with
  | [c0, c1, c2], _ =>
    match xs, hxs with
    | [x0, x1, x2], _ =>
      have h0 : DataW.trod enc Try.prog w base spare held m 3 (([c0, c1, c2].drop 0).take (Try.prog.cellsOf 3)) = some x0 := hfs 0 _ rfl
      have h1 : DataW.trod enc Try.prog w base spare held m 3 (([c0, c1, c2].drop 1).take (Try.prog.cellsOf 3)) = some x1 := hfs 1 _ rfl
      have h2 : DataW.trod enc Try.prog w base spare held m 34 (([c0, c1, c2].drop 2).take (Try.prog.cellsOf 34)) = some x2 := hfs 2 _ rfl
      rw [cells3] at h0 h1
      rw [cells34] at h2
      obtain ⟨a, e0, _⟩ := int_cell (k := .i64) Try.underlying3 h0
      obtain ⟨b, e1, _⟩ := int_cell (k := .i64) Try.underlying3 h1
      simp at e0 e1
      subst e0 e1
      have h3 : DataW.trod enc Try.prog w base spare held m 34 [c2] = some x2 := h2
      haveI : Inhabited S45 := ⟨z45⟩
      have key : ∀ (A : Option Addr) (len cap : Nat), c2 = .slice A len cap → ∃ l : List S45, l.length = len ∧ len ≤ cap ∧ Kd.C k45 w A len l := fun A len cap he => by
        subst he
        obtain ⟨l, g1, g2, g3, _⟩ := slice_reads k45 (fun _ => True) Try.underlying34 cells45 (fun n cs y hy => by
          obtain ⟨a, b, c, d, rfl, _⟩ := pixel_cells hy
          exact ⟨⟨a, b, c, d⟩, k45_mk w ⟨a, b, c, d⟩, trivial⟩) (⟨m, by simpa [Value.cells] using h3⟩ : DataW.Trod enc Try.prog w base spare held 34 (.slice A len cap) x2.1 x2.2)
        exact ⟨l, g1, g2, g3⟩
      rcases open_slice Try.underlying34 h3 with ⟨hcs, _⟩ | ⟨ad, len, cap, _, _, _, _, hcs, _⟩
      · simp at hcs
        obtain ⟨l, g1, g2, g3⟩ := key none 0 0 hcs
        exact ⟨a, b, none, 0, l, by rw [hcs, g1], by rw [g1]; exact Nat.le_refl _, by rw [g1]; exact g3⟩
      · simp at hcs
        obtain ⟨l, rfl, g2, g3⟩ := key (some ad) len cap hcs
        exact ⟨a, b, some ad, cap, l, by rw [hcs], g2, g3⟩
end
end Go.Proofs.Ytmgpmpiondciiaa.Opened
