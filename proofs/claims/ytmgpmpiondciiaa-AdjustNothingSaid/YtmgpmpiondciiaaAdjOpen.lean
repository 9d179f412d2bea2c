/- The adjust laws' arguments opened: whole numbers, lists of them, stops, pixels. No condition. -/
import Derived.Test.YtmgpmpiondciiaaOpen
import Derived.Test.YtmgpmpiondciiaaPAdjustImagesx0
import Derived.OpenShut
import Derived.ChangeOld
namespace Go.Proofs.Ytmgpmpiondciiaa.Opened
open Go.ChangeShapes Go.WideShapes Go.Deep Go.Proofs.YtmgpmpiondciiaaW.PrintWords Go.Proofs.Ytmgpmpiondciiaa.PAdjustImages
section
variable {H : Type} {enc : TypeId × Value → H} {w : World} {base : Nat} {spare : Nat → Bool} {held : Bool}
theorem ints_open {a : Option Addr} {len cap : Nat} {x : DataW H} {ps : List MemPlace} (h : DataW.Trod enc Try.prog w base spare held 32 (.slice a len cap) x ps) :
    ∃ l : List Int, l.length = len ∧ len ≤ cap ∧ Kd.C (Kd.int .i64) w a len l ∧ ∀ v ∈ l, (Lit.int .i64 v).wf = true := by
  refine slice_reads (Kd.int .i64) (fun v => (Lit.int .i64 v).wf = true) Try.underlying32 cells3 (fun n cs y hy => ?_) h
  obtain ⟨v, rfl, hw⟩ := int_cell (k := .i64) Try.underlying3 hy
  exact ⟨v, rfl, hw⟩
theorem stops_open {a : Option Addr} {len cap : Nat} {x : DataW H} {ps : List MemPlace} (h : DataW.Trod enc Try.prog w base spare held 33 (.slice a len cap) x ps) :
    ∃ l : List S74, l.length = len ∧ len ≤ cap ∧ Kd.C k74 w a len l := by
  haveI : Inhabited S74 := ⟨z74⟩
  obtain ⟨l, h1, h2, h3, _⟩ := slice_reads k74 (fun _ => True) Try.underlying33 cells74 (fun n cs y hy => by
    obtain ⟨p, a, b, c, d, rfl, _⟩ := stop_cells hy
    exact ⟨⟨p, ⟨a, b, c, d⟩⟩, k74_mk w ⟨p, ⟨a, b, c, d⟩⟩, trivial⟩) h
  exact ⟨l, h1, h2, h3⟩
theorem pixel_open {r : Reach} {b0 : Nat} {v : Value} {d : DataW H} {ps : List MemPlace} (hv : Value.okWide Try.prog w r b0 45 v) (h : DataW.Trod enc Try.prog w base spare held 45 v d ps) :
    ∃ a b c e : Int, v = .agg #[.int .i64 a, .int .i64 b, .int .i64 c, .int .i64 e] ∧ (Lit.int .i64 a).wf = true ∧ (Lit.int .i64 b).wf = true ∧ (Lit.int .i64 c).wf = true ∧ (Lit.int .i64 e).wf = true := by
  obtain ⟨cs, rfl, _⟩ := okWide_struct Try.underlying45 hv
  obtain ⟨fuel, hf⟩ := h
  obtain ⟨a, b, c, e, hc, w0, w1, w2, w3⟩ := pixel_cells hf
  have : cs = #[.int .i64 a, .int .i64 b, .int .i64 c, .int .i64 e] := by
    have h2 : cs.toList = [.int .i64 a, .int .i64 b, .int .i64 c, .int .i64 e] := by simpa [Value.cells] using hc
    exact Array.toList_inj.1 h2
  exact ⟨a, b, c, e, by rw [this], w0, w1, w2, w3⟩
end
end Go.Proofs.Ytmgpmpiondciiaa.Opened
