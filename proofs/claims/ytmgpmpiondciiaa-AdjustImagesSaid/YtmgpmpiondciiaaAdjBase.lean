/- Small words for the walks of package adjust: what is kept under Below; max and min of two and three; the printed types' kinds. No condition. -/
import Derived.Test.YtmgpmpiondciiaaCore
import Derived.Test.YtmgpmpiondciiaaMath
import Derived.Lib.Hide
namespace Go.Proofs.Ytmgpmpiondciiaa.Adj
open Go.RowKit Go.Proofs.Ytmgpmpiondciiaa.PAdjustImages Go.Proofs.YtmgpmpiondciiaaW.PrintWords
theorem kept {w1 w' : World} (hb : Below w1.heap.size w1 w') {a : Addr} {v : Value} (h : w1.cell? a = some v) : w'.cell? a = some v := (hb.cell (World.block_lt_of_cell? w1 _ h)).trans h
theorem keptF {w1 w' : World} (hb : Below w1.heap.size w1 w') {a : Addr} (v : Value) (h : w1.cell? a = some v) (hf : w1.frozen? a = false) : w'.frozen? a = false := (hb.frozen (World.block_lt_of_cell? w1 _ h)).trans hf
theorem step {w w1 w2 : World} (h : Below w.heap.size w w1) (k : Below w1.heap.size w1 w2) : Below w.heap.size w w2 := h.trans (k.mono h.size)
theorem wr (x : Int) (h0 : -9223372036854775808 ≤ x) (h1 : x ≤ 9223372036854775807) : wrap64 x = x := by unfold wrap64; omega
theorem wi (x : Int) (h0 : -9223372036854775808 ≤ x) (h1 : x ≤ 9223372036854775807) : IntKind.i64.wrap x = x := by rw [IntKind.wrap_i64]; omega
end Go.Proofs.Ytmgpmpiondciiaa.Adj
