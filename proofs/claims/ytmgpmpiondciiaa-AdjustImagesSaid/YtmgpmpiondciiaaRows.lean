/-
  No cell of these rows narrows 'for every input' (looked for: loops, veiled, ifaces, maps, wideKeys, modest, calm, conditions, laid).
  DERIVED. THE GIVEN ROWS OF THIS SEAT. 17 by the template 'for every input the law returns true; each argument reads behind the call as it read before'; 0 by the template 'total and deterministic' (their statements: YtmgpmpiondciiaaTotals.lean).
  GIVEN WITH THE SEED: the statements are not yours to turn. If you find one false, say at which input.
  Laid BY PROGRAM, IN A SANDBOX (cutbox-rows.mjs): the forced cells as the released guide's own fill.sh prints them over the translation 9874c9cee0a006f4… (all of the seat's roots in one cut). By AI agents, Wed Nov 11 2026. No macro, syntax, notation, axiom, sorry.
-/
import Derived.Test.YtmgpmpiondciiaaChecked
import GoSem.Claim
import GoSem.ClaimJoined
import GoSem.ClaimMapViews
import Derived.JoinedTies
import Derived.KernelRfl
namespace Go.Proofs.Ytmgpmpiondciiaa
/- THE CELL 'sum', in the pinned program and in every row, IS THE sha256 OF THE DUMP (.gsa) THAT YtmgpmpiondciiaaProg.lean LOADS. Nothing in Lean hashes anything: it is a label: what it is worth is what the hold of that sum in a sandbox is worth. -/
noncomputable def Try.pinned : Pinned := { name := "ytmgpmpiondciiaa", sum := "9874c9cee0a006f40eb3b2675476a259f0cd96e51fcb359d8a6bc41416724956", checked := Try.checked }
namespace Rows
def none {H : Type} : Left H := { results := [], args := [] }

/-- 'imageeditorlaw07.CurveChecks': WHATEVER THE INPUT: true; the input reads as it did. -/
def curveChecksSpec : ChangeSpec := { name := "curveChecks", fn := fun _ => fun
  | [d] => { results := [.lit (.bool true)], args := [d] }
  | _ => none }
def curveChecksRow : OpenClaim := { program := "ytmgpmpiondciiaa", sum := "9874c9cee0a006f40eb3b2675476a259f0cd96e51fcb359d8a6bc41416724956", func := "imageeditor/imageeditorlaw07.CurveChecks", spec := "curveChecks", apart := false }
def CurveChecksSaid : Prop := curveChecksRow.holds Try.pinned (OpenSpec.ofChange curveChecksSpec)

/-- ITS FALSE NEIGHBOUR: 'it returns false'. Refute it at one input. -/
def curveChecksWrong : ChangeSpec := { name := "curveChecks", fn := fun _ => fun
  | [d] => { results := [.lit (.bool false)], args := [d] }
  | _ => none }
def CurveChecksWrongFalsely : Prop := curveChecksRow.holds Try.pinned (OpenSpec.ofChange curveChecksWrong)

/-- 'imageeditorlaw07.CurveAts': WHATEVER THE INPUT: true; the input reads as it did. -/
def curveAtsSpec : ChangeSpec := { name := "curveAts", fn := fun _ => fun
  | [d1, d2] => { results := [.lit (.bool true)], args := [d1, d2] }
  | _ => none }
def curveAtsRow : OpenClaim := { program := "ytmgpmpiondciiaa", sum := "9874c9cee0a006f40eb3b2675476a259f0cd96e51fcb359d8a6bc41416724956", func := "imageeditor/imageeditorlaw07.CurveAts", spec := "curveAts", apart := false }
def CurveAtsSaid : Prop := curveAtsRow.holds Try.pinned (OpenSpec.ofChange curveAtsSpec)

/-- ITS FALSE NEIGHBOUR: 'it returns false'. Refute it at one input. -/
def curveAtsWrong : ChangeSpec := { name := "curveAts", fn := fun _ => fun
  | [d1, d2] => { results := [.lit (.bool false)], args := [d1, d2] }
  | _ => none }
def CurveAtsWrongFalsely : Prop := curveAtsRow.holds Try.pinned (OpenSpec.ofChange curveAtsWrong)

/-- 'imageeditorlaw07.CurveInverts': WHATEVER THE INPUT: true; the input reads as it did. -/
def curveInvertsSpec : ChangeSpec := { name := "curveInverts", fn := fun _ => fun
  | [d] => { results := [.lit (.bool true)], args := [d] }
  | _ => none }
def curveInvertsRow : OpenClaim := { program := "ytmgpmpiondciiaa", sum := "9874c9cee0a006f40eb3b2675476a259f0cd96e51fcb359d8a6bc41416724956", func := "imageeditor/imageeditorlaw07.CurveInverts", spec := "curveInverts", apart := false }
def CurveInvertsSaid : Prop := curveInvertsRow.holds Try.pinned (OpenSpec.ofChange curveInvertsSpec)

/-- ITS FALSE NEIGHBOUR: 'it returns false'. Refute it at one input. -/
def curveInvertsWrong : ChangeSpec := { name := "curveInverts", fn := fun _ => fun
  | [d] => { results := [.lit (.bool false)], args := [d] }
  | _ => none }
def CurveInvertsWrongFalsely : Prop := curveInvertsRow.holds Try.pinned (OpenSpec.ofChange curveInvertsWrong)

/-- 'imageeditorlaw07.CurveBacks': WHATEVER THE INPUT: true; the input reads as it did. -/
def curveBacksSpec : ChangeSpec := { name := "curveBacks", fn := fun _ => fun
  | [d1, d2] => { results := [.lit (.bool true)], args := [d1, d2] }
  | _ => none }
def curveBacksRow : OpenClaim := { program := "ytmgpmpiondciiaa", sum := "9874c9cee0a006f40eb3b2675476a259f0cd96e51fcb359d8a6bc41416724956", func := "imageeditor/imageeditorlaw07.CurveBacks", spec := "curveBacks", apart := false }
def CurveBacksSaid : Prop := curveBacksRow.holds Try.pinned (OpenSpec.ofChange curveBacksSpec)

/-- ITS FALSE NEIGHBOUR: 'it returns false'. Refute it at one input. -/
def curveBacksWrong : ChangeSpec := { name := "curveBacks", fn := fun _ => fun
  | [d1, d2] => { results := [.lit (.bool false)], args := [d1, d2] }
  | _ => none }
def CurveBacksWrongFalsely : Prop := curveBacksRow.holds Try.pinned (OpenSpec.ofChange curveBacksWrong)

/-- 'imageeditorlaw17.AdjustImages': WHATEVER THE INPUT: true; the input reads as it did. -/
def adjustImagesSpec : ChangeSpec := { name := "adjustImages", fn := fun _ => fun
  | [d1, d2, d3, d4] => { results := [.lit (.bool true)], args := [d1, d2, d3, d4] }
  | _ => none }
def adjustImagesRow : OpenClaim := { program := "ytmgpmpiondciiaa", sum := "9874c9cee0a006f40eb3b2675476a259f0cd96e51fcb359d8a6bc41416724956", func := "imageeditor/imageeditorlaw17.AdjustImages", spec := "adjustImages", unfollowed := true, recurses := true, apart := false }
def AdjustImagesSaid : Prop := adjustImagesRow.holds Try.pinned (OpenSpec.ofChange adjustImagesSpec)

/-- ITS FALSE NEIGHBOUR: 'it returns false'. Refute it at one input. -/
def adjustImagesWrong : ChangeSpec := { name := "adjustImages", fn := fun _ => fun
  | [d1, d2, d3, d4] => { results := [.lit (.bool false)], args := [d1, d2, d3, d4] }
  | _ => none }
def AdjustImagesWrongFalsely : Prop := adjustImagesRow.holds Try.pinned (OpenSpec.ofChange adjustImagesWrong)

/-- 'imageeditorlaw07.CurveBounds': WHATEVER THE INPUT: true; the input reads as it did. -/
def curveBoundsSpec : ChangeSpec := { name := "curveBounds", fn := fun _ => fun
  | [d1, d2, d3] => { results := [.lit (.bool true)], args := [d1, d2, d3] }
  | _ => none }
def curveBoundsRow : OpenClaim := { program := "ytmgpmpiondciiaa", sum := "9874c9cee0a006f40eb3b2675476a259f0cd96e51fcb359d8a6bc41416724956", func := "imageeditor/imageeditorlaw07.CurveBounds", spec := "curveBounds", apart := false }
def CurveBoundsSaid : Prop := curveBoundsRow.holds Try.pinned (OpenSpec.ofChange curveBoundsSpec)

/-- ITS FALSE NEIGHBOUR: 'it returns false'. Refute it at one input. -/
def curveBoundsWrong : ChangeSpec := { name := "curveBounds", fn := fun _ => fun
  | [d1, d2, d3] => { results := [.lit (.bool false)], args := [d1, d2, d3] }
  | _ => none }
def CurveBoundsWrongFalsely : Prop := curveBoundsRow.holds Try.pinned (OpenSpec.ofChange curveBoundsWrong)

/-- 'imageeditorlaw17.AdjustEach': WHATEVER THE INPUT: true; the input reads as it did. -/
def adjustEachSpec : ChangeSpec := { name := "adjustEach", fn := fun _ => fun
  | [d1, d2, d3, d4] => { results := [.lit (.bool true)], args := [d1, d2, d3, d4] }
  | _ => none }
def adjustEachRow : OpenClaim := { program := "ytmgpmpiondciiaa", sum := "9874c9cee0a006f40eb3b2675476a259f0cd96e51fcb359d8a6bc41416724956", func := "imageeditor/imageeditorlaw17.AdjustEach", spec := "adjustEach", unfollowed := true, recurses := true, apart := false }
def AdjustEachSaid : Prop := adjustEachRow.holds Try.pinned (OpenSpec.ofChange adjustEachSpec)

/-- ITS FALSE NEIGHBOUR: 'it returns false'. Refute it at one input. -/
def adjustEachWrong : ChangeSpec := { name := "adjustEach", fn := fun _ => fun
  | [d1, d2, d3, d4] => { results := [.lit (.bool false)], args := [d1, d2, d3, d4] }
  | _ => none }
def AdjustEachWrongFalsely : Prop := adjustEachRow.holds Try.pinned (OpenSpec.ofChange adjustEachWrong)

/-- 'imageeditorlaw07.CurveReturns': WHATEVER THE INPUT: true; the input reads as it did. -/
def curveReturnsSpec : ChangeSpec := { name := "curveReturns", fn := fun _ => fun
  | [d] => { results := [.lit (.bool true)], args := [d] }
  | _ => none }
def curveReturnsRow : OpenClaim := { program := "ytmgpmpiondciiaa", sum := "9874c9cee0a006f40eb3b2675476a259f0cd96e51fcb359d8a6bc41416724956", func := "imageeditor/imageeditorlaw07.CurveReturns", spec := "curveReturns", apart := false }
def CurveReturnsSaid : Prop := curveReturnsRow.holds Try.pinned (OpenSpec.ofChange curveReturnsSpec)

/-- ITS FALSE NEIGHBOUR: 'it returns false'. Refute it at one input. -/
def curveReturnsWrong : ChangeSpec := { name := "curveReturns", fn := fun _ => fun
  | [d] => { results := [.lit (.bool false)], args := [d] }
  | _ => none }
def CurveReturnsWrongFalsely : Prop := curveReturnsRow.holds Try.pinned (OpenSpec.ofChange curveReturnsWrong)

/-- 'imageeditorlaw07.CurveLeast': WHATEVER THE INPUT: true; the input reads as it did. -/
def curveLeastSpec : ChangeSpec := { name := "curveLeast", fn := fun _ => fun
  | [d1, d2, d3] => { results := [.lit (.bool true)], args := [d1, d2, d3] }
  | _ => none }
def curveLeastRow : OpenClaim := { program := "ytmgpmpiondciiaa", sum := "9874c9cee0a006f40eb3b2675476a259f0cd96e51fcb359d8a6bc41416724956", func := "imageeditor/imageeditorlaw07.CurveLeast", spec := "curveLeast", apart := false }
def CurveLeastSaid : Prop := curveLeastRow.holds Try.pinned (OpenSpec.ofChange curveLeastSpec)

/-- ITS FALSE NEIGHBOUR: 'it returns false'. Refute it at one input. -/
def curveLeastWrong : ChangeSpec := { name := "curveLeast", fn := fun _ => fun
  | [d1, d2, d3] => { results := [.lit (.bool false)], args := [d1, d2, d3] }
  | _ => none }
def CurveLeastWrongFalsely : Prop := curveLeastRow.holds Try.pinned (OpenSpec.ofChange curveLeastWrong)

/-- 'imageeditorlaw07.CurveTables': WHATEVER THE INPUT: true; the input reads as it did. -/
def curveTablesSpec : ChangeSpec := { name := "curveTables", fn := fun _ => fun
  | [d1, d2] => { results := [.lit (.bool true)], args := [d1, d2] }
  | _ => none }
def curveTablesRow : OpenClaim := { program := "ytmgpmpiondciiaa", sum := "9874c9cee0a006f40eb3b2675476a259f0cd96e51fcb359d8a6bc41416724956", func := "imageeditor/imageeditorlaw07.CurveTables", spec := "curveTables", apart := false }
def CurveTablesSaid : Prop := curveTablesRow.holds Try.pinned (OpenSpec.ofChange curveTablesSpec)

/-- ITS FALSE NEIGHBOUR: 'it returns false'. Refute it at one input. -/
def curveTablesWrong : ChangeSpec := { name := "curveTables", fn := fun _ => fun
  | [d1, d2] => { results := [.lit (.bool false)], args := [d1, d2] }
  | _ => none }
def CurveTablesWrongFalsely : Prop := curveTablesRow.holds Try.pinned (OpenSpec.ofChange curveTablesWrong)

/-- 'imageeditorlaw17.AdjustPixels': WHATEVER THE INPUT: true; the input reads as it did. -/
def adjustPixelsSpec : ChangeSpec := { name := "adjustPixels", fn := fun _ => fun
  | [d1, d2, d3, d4] => { results := [.lit (.bool true)], args := [d1, d2, d3, d4] }
  | _ => none }
def adjustPixelsRow : OpenClaim := { program := "ytmgpmpiondciiaa", sum := "9874c9cee0a006f40eb3b2675476a259f0cd96e51fcb359d8a6bc41416724956", func := "imageeditor/imageeditorlaw17.AdjustPixels", spec := "adjustPixels", unfollowed := true, recurses := true, apart := false }
def AdjustPixelsSaid : Prop := adjustPixelsRow.holds Try.pinned (OpenSpec.ofChange adjustPixelsSpec)

/-- ITS FALSE NEIGHBOUR: 'it returns false'. Refute it at one input. -/
def adjustPixelsWrong : ChangeSpec := { name := "adjustPixels", fn := fun _ => fun
  | [d1, d2, d3, d4] => { results := [.lit (.bool false)], args := [d1, d2, d3, d4] }
  | _ => none }
def AdjustPixelsWrongFalsely : Prop := adjustPixelsRow.holds Try.pinned (OpenSpec.ofChange adjustPixelsWrong)

/-- 'imageeditorlaw17.AdjustHsls': WHATEVER THE INPUT: true; the input reads as it did. -/
def adjustHslsSpec : ChangeSpec := { name := "adjustHsls", fn := fun _ => fun
  | [d1, d2, d3] => { results := [.lit (.bool true)], args := [d1, d2, d3] }
  | _ => none }
def adjustHslsRow : OpenClaim := { program := "ytmgpmpiondciiaa", sum := "9874c9cee0a006f40eb3b2675476a259f0cd96e51fcb359d8a6bc41416724956", func := "imageeditor/imageeditorlaw17.AdjustHsls", spec := "adjustHsls", unfollowed := true, recurses := true, apart := false }
def AdjustHslsSaid : Prop := adjustHslsRow.holds Try.pinned (OpenSpec.ofChange adjustHslsSpec)

/-- ITS FALSE NEIGHBOUR: 'it returns false'. Refute it at one input. -/
def adjustHslsWrong : ChangeSpec := { name := "adjustHsls", fn := fun _ => fun
  | [d1, d2, d3] => { results := [.lit (.bool false)], args := [d1, d2, d3] }
  | _ => none }
def AdjustHslsWrongFalsely : Prop := adjustHslsRow.holds Try.pinned (OpenSpec.ofChange adjustHslsWrong)

/-- 'imageeditorlaw17.AdjustTwice': WHATEVER THE INPUT: true; the input reads as it did. -/
def adjustTwiceSpec : ChangeSpec := { name := "adjustTwice", fn := fun _ => fun
  | [d1, d2, d3, d4, d5, d6] => { results := [.lit (.bool true)], args := [d1, d2, d3, d4, d5, d6] }
  | _ => none }
def adjustTwiceRow : OpenClaim := { program := "ytmgpmpiondciiaa", sum := "9874c9cee0a006f40eb3b2675476a259f0cd96e51fcb359d8a6bc41416724956", func := "imageeditor/imageeditorlaw17.AdjustTwice", spec := "adjustTwice", unfollowed := true, recurses := true, apart := false }
def AdjustTwiceSaid : Prop := adjustTwiceRow.holds Try.pinned (OpenSpec.ofChange adjustTwiceSpec)

/-- ITS FALSE NEIGHBOUR: 'it returns false'. Refute it at one input. -/
def adjustTwiceWrong : ChangeSpec := { name := "adjustTwice", fn := fun _ => fun
  | [d1, d2, d3, d4, d5, d6] => { results := [.lit (.bool false)], args := [d1, d2, d3, d4, d5, d6] }
  | _ => none }
def AdjustTwiceWrongFalsely : Prop := adjustTwiceRow.holds Try.pinned (OpenSpec.ofChange adjustTwiceWrong)

/-- 'imageeditorlaw17.AdjustKeeps': WHATEVER THE INPUT: true; the input reads as it did. -/
def adjustKeepsSpec : ChangeSpec := { name := "adjustKeeps", fn := fun _ => fun
  | [d1, d2, d3, d4] => { results := [.lit (.bool true)], args := [d1, d2, d3, d4] }
  | _ => none }
def adjustKeepsRow : OpenClaim := { program := "ytmgpmpiondciiaa", sum := "9874c9cee0a006f40eb3b2675476a259f0cd96e51fcb359d8a6bc41416724956", func := "imageeditor/imageeditorlaw17.AdjustKeeps", spec := "adjustKeeps", unfollowed := true, recurses := true, apart := false }
def AdjustKeepsSaid : Prop := adjustKeepsRow.holds Try.pinned (OpenSpec.ofChange adjustKeepsSpec)

/-- ITS FALSE NEIGHBOUR: 'it returns false'. Refute it at one input. -/
def adjustKeepsWrong : ChangeSpec := { name := "adjustKeeps", fn := fun _ => fun
  | [d1, d2, d3, d4] => { results := [.lit (.bool false)], args := [d1, d2, d3, d4] }
  | _ => none }
def AdjustKeepsWrongFalsely : Prop := adjustKeepsRow.holds Try.pinned (OpenSpec.ofChange adjustKeepsWrong)

/-- 'imageeditorlaw17.AdjustNear': WHATEVER THE INPUT: true; the input reads as it did. -/
def adjustNearSpec : ChangeSpec := { name := "adjustNear", fn := fun _ => fun
  | [d] => { results := [.lit (.bool true)], args := [d] }
  | _ => none }
def adjustNearRow : OpenClaim := { program := "ytmgpmpiondciiaa", sum := "9874c9cee0a006f40eb3b2675476a259f0cd96e51fcb359d8a6bc41416724956", func := "imageeditor/imageeditorlaw17.AdjustNear", spec := "adjustNear", unfollowed := true, recurses := true, apart := false }
def AdjustNearSaid : Prop := adjustNearRow.holds Try.pinned (OpenSpec.ofChange adjustNearSpec)

/-- ITS FALSE NEIGHBOUR: 'it returns false'. Refute it at one input. -/
def adjustNearWrong : ChangeSpec := { name := "adjustNear", fn := fun _ => fun
  | [d] => { results := [.lit (.bool false)], args := [d] }
  | _ => none }
def AdjustNearWrongFalsely : Prop := adjustNearRow.holds Try.pinned (OpenSpec.ofChange adjustNearWrong)

/-- 'imageeditorlaw17.AdjustChecks': WHATEVER THE INPUT: true; the input reads as it did. -/
def adjustChecksSpec : ChangeSpec := { name := "adjustChecks", fn := fun _ => fun
  | [d1, d2, d3] => { results := [.lit (.bool true)], args := [d1, d2, d3] }
  | _ => none }
def adjustChecksRow : OpenClaim := { program := "ytmgpmpiondciiaa", sum := "9874c9cee0a006f40eb3b2675476a259f0cd96e51fcb359d8a6bc41416724956", func := "imageeditor/imageeditorlaw17.AdjustChecks", spec := "adjustChecks", unfollowed := true, recurses := true, apart := false }
def AdjustChecksSaid : Prop := adjustChecksRow.holds Try.pinned (OpenSpec.ofChange adjustChecksSpec)

/-- ITS FALSE NEIGHBOUR: 'it returns false'. Refute it at one input. -/
def adjustChecksWrong : ChangeSpec := { name := "adjustChecks", fn := fun _ => fun
  | [d1, d2, d3] => { results := [.lit (.bool false)], args := [d1, d2, d3] }
  | _ => none }
def AdjustChecksWrongFalsely : Prop := adjustChecksRow.holds Try.pinned (OpenSpec.ofChange adjustChecksWrong)

/-- 'imageeditorlaw17.AdjustNothing': WHATEVER THE INPUT: true; the input reads as it did. -/
def adjustNothingSpec : ChangeSpec := { name := "adjustNothing", fn := fun _ => fun
  | [d] => { results := [.lit (.bool true)], args := [d] }
  | _ => none }
def adjustNothingRow : OpenClaim := { program := "ytmgpmpiondciiaa", sum := "9874c9cee0a006f40eb3b2675476a259f0cd96e51fcb359d8a6bc41416724956", func := "imageeditor/imageeditorlaw17.AdjustNothing", spec := "adjustNothing", unfollowed := true, recurses := true, apart := false }
def AdjustNothingSaid : Prop := adjustNothingRow.holds Try.pinned (OpenSpec.ofChange adjustNothingSpec)

/-- ITS FALSE NEIGHBOUR: 'it returns false'. Refute it at one input. -/
def adjustNothingWrong : ChangeSpec := { name := "adjustNothing", fn := fun _ => fun
  | [d] => { results := [.lit (.bool false)], args := [d] }
  | _ => none }
def AdjustNothingWrongFalsely : Prop := adjustNothingRow.holds Try.pinned (OpenSpec.ofChange adjustNothingWrong)

/- THE SECOND FORM. 'bulk': how many values and letters a reading holds, each counted each time it is reached (what is shared counts as often as it is met; a slice's spare places count too). A statement '..UptoSaid' is the law's where the arguments, and the package variables that the reading takes, are together of bulk at most 1048576: NARROWER than '..Said'. Prove '..Said' where nothing that the law and all that it calls make is longer than what came in: it says more and counts as full. Else prove '..UptoSaid'. A law counts once. -/
mutual
def uptoBulk {H : Type} : DataW H → Nat
  | .lit (.string bytes) => bytes.length + 1
  | .lit _ => 1
  | .nil => 1
  | .ptr d => uptoBulk d + 1
  | .slice elems spare => uptoBulkAll elems + uptoBulkAll spare + 1
  | .agg parts => uptoBulkAll parts + 1
  | .iface _ d => uptoBulk d + 1
  | .map entries => uptoBulkEntries entries + 1
  | .held _ => 1
def uptoBulkAll {H : Type} : List (DataW H) → Nat
  | [] => 0
  | d :: r => uptoBulk d + uptoBulkAll r
def uptoBulkEntries {H : Type} : List (Lit × DataW H) → Nat
  | [] => 0
  | x :: r => uptoBulkEntry x + uptoBulkEntries r
def uptoBulkEntry {H : Type} : Lit × DataW H → Nat
  | (.string bytes, d) => bytes.length + uptoBulk d + 1
  | (_, d) => uptoBulk d + 1
 end
def uptoSmall : (H : Type) → List (DataW H) → Bool := fun _ ds => decide (uptoBulkAll ds ≤ 1048576)
def OpenSpec.upto (s : _root_.Go.ChangeSpec) : _root_.Go.OpenSpec := { _root_.Go.OpenSpec.ofChange s with cond := some uptoSmall }

/-- 'imageeditorlaw07.CurveChecks', WHERE WHAT IT READS IS OF BULK AT MOST 1048576: true; the input reads as it did. -/
def curveChecksUptoRow : OpenClaim := { program := "ytmgpmpiondciiaa", sum := "9874c9cee0a006f40eb3b2675476a259f0cd96e51fcb359d8a6bc41416724956", func := "imageeditor/imageeditorlaw07.CurveChecks", spec := "curveChecks", apart := false, narrowed := true }
def CurveChecksUptoSaid : Prop := curveChecksUptoRow.holds Try.pinned (OpenSpec.upto curveChecksSpec)

/-- 'imageeditorlaw07.CurveAts', WHERE WHAT IT READS IS OF BULK AT MOST 1048576: true; the input reads as it did. -/
def curveAtsUptoRow : OpenClaim := { program := "ytmgpmpiondciiaa", sum := "9874c9cee0a006f40eb3b2675476a259f0cd96e51fcb359d8a6bc41416724956", func := "imageeditor/imageeditorlaw07.CurveAts", spec := "curveAts", apart := false, narrowed := true }
def CurveAtsUptoSaid : Prop := curveAtsUptoRow.holds Try.pinned (OpenSpec.upto curveAtsSpec)

/-- 'imageeditorlaw07.CurveInverts', WHERE WHAT IT READS IS OF BULK AT MOST 1048576: true; the input reads as it did. -/
def curveInvertsUptoRow : OpenClaim := { program := "ytmgpmpiondciiaa", sum := "9874c9cee0a006f40eb3b2675476a259f0cd96e51fcb359d8a6bc41416724956", func := "imageeditor/imageeditorlaw07.CurveInverts", spec := "curveInverts", apart := false, narrowed := true }
def CurveInvertsUptoSaid : Prop := curveInvertsUptoRow.holds Try.pinned (OpenSpec.upto curveInvertsSpec)

/-- 'imageeditorlaw07.CurveBacks', WHERE WHAT IT READS IS OF BULK AT MOST 1048576: true; the input reads as it did. -/
def curveBacksUptoRow : OpenClaim := { program := "ytmgpmpiondciiaa", sum := "9874c9cee0a006f40eb3b2675476a259f0cd96e51fcb359d8a6bc41416724956", func := "imageeditor/imageeditorlaw07.CurveBacks", spec := "curveBacks", apart := false, narrowed := true }
def CurveBacksUptoSaid : Prop := curveBacksUptoRow.holds Try.pinned (OpenSpec.upto curveBacksSpec)

/-- 'imageeditorlaw17.AdjustImages', WHERE WHAT IT READS IS OF BULK AT MOST 1048576: true; the input reads as it did. -/
def adjustImagesUptoRow : OpenClaim := { program := "ytmgpmpiondciiaa", sum := "9874c9cee0a006f40eb3b2675476a259f0cd96e51fcb359d8a6bc41416724956", func := "imageeditor/imageeditorlaw17.AdjustImages", spec := "adjustImages", unfollowed := true, recurses := true, apart := false, narrowed := true }
def AdjustImagesUptoSaid : Prop := adjustImagesUptoRow.holds Try.pinned (OpenSpec.upto adjustImagesSpec)

/-- 'imageeditorlaw07.CurveBounds', WHERE WHAT IT READS IS OF BULK AT MOST 1048576: true; the input reads as it did. -/
def curveBoundsUptoRow : OpenClaim := { program := "ytmgpmpiondciiaa", sum := "9874c9cee0a006f40eb3b2675476a259f0cd96e51fcb359d8a6bc41416724956", func := "imageeditor/imageeditorlaw07.CurveBounds", spec := "curveBounds", apart := false, narrowed := true }
def CurveBoundsUptoSaid : Prop := curveBoundsUptoRow.holds Try.pinned (OpenSpec.upto curveBoundsSpec)

/-- 'imageeditorlaw17.AdjustEach', WHERE WHAT IT READS IS OF BULK AT MOST 1048576: true; the input reads as it did. -/
def adjustEachUptoRow : OpenClaim := { program := "ytmgpmpiondciiaa", sum := "9874c9cee0a006f40eb3b2675476a259f0cd96e51fcb359d8a6bc41416724956", func := "imageeditor/imageeditorlaw17.AdjustEach", spec := "adjustEach", unfollowed := true, recurses := true, apart := false, narrowed := true }
def AdjustEachUptoSaid : Prop := adjustEachUptoRow.holds Try.pinned (OpenSpec.upto adjustEachSpec)

/-- 'imageeditorlaw07.CurveReturns', WHERE WHAT IT READS IS OF BULK AT MOST 1048576: true; the input reads as it did. -/
def curveReturnsUptoRow : OpenClaim := { program := "ytmgpmpiondciiaa", sum := "9874c9cee0a006f40eb3b2675476a259f0cd96e51fcb359d8a6bc41416724956", func := "imageeditor/imageeditorlaw07.CurveReturns", spec := "curveReturns", apart := false, narrowed := true }
def CurveReturnsUptoSaid : Prop := curveReturnsUptoRow.holds Try.pinned (OpenSpec.upto curveReturnsSpec)

/-- 'imageeditorlaw07.CurveLeast', WHERE WHAT IT READS IS OF BULK AT MOST 1048576: true; the input reads as it did. -/
def curveLeastUptoRow : OpenClaim := { program := "ytmgpmpiondciiaa", sum := "9874c9cee0a006f40eb3b2675476a259f0cd96e51fcb359d8a6bc41416724956", func := "imageeditor/imageeditorlaw07.CurveLeast", spec := "curveLeast", apart := false, narrowed := true }
def CurveLeastUptoSaid : Prop := curveLeastUptoRow.holds Try.pinned (OpenSpec.upto curveLeastSpec)

/-- 'imageeditorlaw07.CurveTables', WHERE WHAT IT READS IS OF BULK AT MOST 1048576: true; the input reads as it did. -/
def curveTablesUptoRow : OpenClaim := { program := "ytmgpmpiondciiaa", sum := "9874c9cee0a006f40eb3b2675476a259f0cd96e51fcb359d8a6bc41416724956", func := "imageeditor/imageeditorlaw07.CurveTables", spec := "curveTables", apart := false, narrowed := true }
def CurveTablesUptoSaid : Prop := curveTablesUptoRow.holds Try.pinned (OpenSpec.upto curveTablesSpec)

/-- 'imageeditorlaw17.AdjustPixels', WHERE WHAT IT READS IS OF BULK AT MOST 1048576: true; the input reads as it did. -/
def adjustPixelsUptoRow : OpenClaim := { program := "ytmgpmpiondciiaa", sum := "9874c9cee0a006f40eb3b2675476a259f0cd96e51fcb359d8a6bc41416724956", func := "imageeditor/imageeditorlaw17.AdjustPixels", spec := "adjustPixels", unfollowed := true, recurses := true, apart := false, narrowed := true }
def AdjustPixelsUptoSaid : Prop := adjustPixelsUptoRow.holds Try.pinned (OpenSpec.upto adjustPixelsSpec)

/-- 'imageeditorlaw17.AdjustHsls', WHERE WHAT IT READS IS OF BULK AT MOST 1048576: true; the input reads as it did. -/
def adjustHslsUptoRow : OpenClaim := { program := "ytmgpmpiondciiaa", sum := "9874c9cee0a006f40eb3b2675476a259f0cd96e51fcb359d8a6bc41416724956", func := "imageeditor/imageeditorlaw17.AdjustHsls", spec := "adjustHsls", unfollowed := true, recurses := true, apart := false, narrowed := true }
def AdjustHslsUptoSaid : Prop := adjustHslsUptoRow.holds Try.pinned (OpenSpec.upto adjustHslsSpec)

/-- 'imageeditorlaw17.AdjustTwice', WHERE WHAT IT READS IS OF BULK AT MOST 1048576: true; the input reads as it did. -/
def adjustTwiceUptoRow : OpenClaim := { program := "ytmgpmpiondciiaa", sum := "9874c9cee0a006f40eb3b2675476a259f0cd96e51fcb359d8a6bc41416724956", func := "imageeditor/imageeditorlaw17.AdjustTwice", spec := "adjustTwice", unfollowed := true, recurses := true, apart := false, narrowed := true }
def AdjustTwiceUptoSaid : Prop := adjustTwiceUptoRow.holds Try.pinned (OpenSpec.upto adjustTwiceSpec)

/-- 'imageeditorlaw17.AdjustKeeps', WHERE WHAT IT READS IS OF BULK AT MOST 1048576: true; the input reads as it did. -/
def adjustKeepsUptoRow : OpenClaim := { program := "ytmgpmpiondciiaa", sum := "9874c9cee0a006f40eb3b2675476a259f0cd96e51fcb359d8a6bc41416724956", func := "imageeditor/imageeditorlaw17.AdjustKeeps", spec := "adjustKeeps", unfollowed := true, recurses := true, apart := false, narrowed := true }
def AdjustKeepsUptoSaid : Prop := adjustKeepsUptoRow.holds Try.pinned (OpenSpec.upto adjustKeepsSpec)

/-- 'imageeditorlaw17.AdjustNear', WHERE WHAT IT READS IS OF BULK AT MOST 1048576: true; the input reads as it did. -/
def adjustNearUptoRow : OpenClaim := { program := "ytmgpmpiondciiaa", sum := "9874c9cee0a006f40eb3b2675476a259f0cd96e51fcb359d8a6bc41416724956", func := "imageeditor/imageeditorlaw17.AdjustNear", spec := "adjustNear", unfollowed := true, recurses := true, apart := false, narrowed := true }
def AdjustNearUptoSaid : Prop := adjustNearUptoRow.holds Try.pinned (OpenSpec.upto adjustNearSpec)

/-- 'imageeditorlaw17.AdjustChecks', WHERE WHAT IT READS IS OF BULK AT MOST 1048576: true; the input reads as it did. -/
def adjustChecksUptoRow : OpenClaim := { program := "ytmgpmpiondciiaa", sum := "9874c9cee0a006f40eb3b2675476a259f0cd96e51fcb359d8a6bc41416724956", func := "imageeditor/imageeditorlaw17.AdjustChecks", spec := "adjustChecks", unfollowed := true, recurses := true, apart := false, narrowed := true }
def AdjustChecksUptoSaid : Prop := adjustChecksUptoRow.holds Try.pinned (OpenSpec.upto adjustChecksSpec)

/-- 'imageeditorlaw17.AdjustNothing', WHERE WHAT IT READS IS OF BULK AT MOST 1048576: true; the input reads as it did. -/
def adjustNothingUptoRow : OpenClaim := { program := "ytmgpmpiondciiaa", sum := "9874c9cee0a006f40eb3b2675476a259f0cd96e51fcb359d8a6bc41416724956", func := "imageeditor/imageeditorlaw17.AdjustNothing", spec := "adjustNothing", unfollowed := true, recurses := true, apart := false, narrowed := true }
def AdjustNothingUptoSaid : Prop := adjustNothingUptoRow.holds Try.pinned (OpenSpec.upto adjustNothingSpec)

end Rows
end Go.Proofs.Ytmgpmpiondciiaa
