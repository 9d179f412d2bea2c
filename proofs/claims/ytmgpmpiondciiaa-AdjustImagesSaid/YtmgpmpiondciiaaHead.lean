/- The head of the program's own record, letter by letter, and the three facts of the row's form that read it: by this road they are cheap. No condition. -/
import Derived.Test.YtmgpmpiondciiaaRows
import Derived.JoinedOf
namespace Go.Proofs.Ytmgpmpiondciiaa.Head
def word0 : List Nat := [104, 97, 114, 110, 101, 115, 115]
def word1 : List Nat := [53, 53, 49, 50, 56, 49, 48, 102, 51, 52, 56, 49, 98, 55, 49, 99, 54, 54, 52, 52, 52, 102, 100, 52, 49, 48, 101, 54, 101, 98, 53, 98, 55, 53, 99, 98, 97, 99, 97, 100, 51, 99, 51, 49, 100, 50, 98, 50, 54, 57, 51, 53, 101, 102, 49, 53, 50, 52, 102, 100, 50, 55, 98, 98]
def word2 : List Nat := [99, 117, 116]
def rest : List Nat := [97, 116, 32, 105, 109, 97, 103, 101, 101, 100, 105, 116, 111, 114, 47, 105, 109, 97, 103, 101, 101, 100, 105, 116, 111, 114, 108, 97, 119, 48, 55, 46, 67, 117, 114, 118, 101, 67, 104, 101, 99, 107, 115, 32, 105, 109, 97, 103, 101, 101, 100, 105, 116, 111, 114, 47, 105, 109, 97, 103, 101, 101, 100, 105, 116, 111, 114, 108, 97, 119, 48, 55, 46, 67, 117, 114, 118, 101, 65, 116, 115, 32, 105, 109, 97, 103, 101, 101, 100, 105, 116, 111, 114, 47, 105, 109, 97, 103, 101, 101, 100, 105, 116, 111, 114, 108, 97, 119, 48, 55, 46, 67, 117, 114, 118, 101, 73, 110, 118, 101, 114, 116, 115, 32, 105, 109, 97, 103, 101, 101, 100, 105, 116, 111, 114, 47, 105, 109, 97, 103, 101, 101, 100, 105, 116, 111, 114, 108, 97, 119, 48, 55, 46, 67, 117, 114, 118, 101, 66, 97, 99, 107, 115, 32, 105, 109, 97, 103, 101, 101, 100, 105, 116, 111, 114, 47, 105, 109, 97, 103, 101, 101, 100, 105, 116, 111, 114, 108, 97, 119, 49, 55, 46, 65, 100, 106, 117, 115, 116, 73, 109, 97, 103, 101, 115, 32, 105, 109, 97, 103, 101, 101, 100, 105, 116, 111, 114, 47, 105, 109, 97, 103, 101, 101, 100, 105, 116, 111, 114, 108, 97, 119, 48, 55, 46, 67, 117, 114, 118, 101, 66, 111, 117, 110, 100, 115, 32, 105, 109, 97, 103, 101, 101, 100, 105, 116, 111, 114, 47, 105, 109, 97, 103, 101, 101, 100, 105, 116, 111, 114, 108, 97, 119, 49, 55, 46, 65, 100, 106, 117, 115, 116, 69, 97, 99, 104, 32, 105, 109, 97, 103, 101, 101, 100, 105, 116, 111, 114, 47, 105, 109, 97, 103, 101, 101, 100, 105, 116, 111, 114, 108, 97, 119, 48, 55, 46, 67, 117, 114, 118, 101, 82, 101, 116, 117, 114, 110, 115, 32, 105, 109, 97, 103, 101, 101, 100, 105, 116, 111, 114, 47, 105, 109, 97, 103, 101, 101, 100, 105, 116, 111, 114, 108, 97, 119, 48, 55, 46, 67, 117, 114, 118, 101, 76, 101, 97, 115, 116, 32, 105, 109, 97, 103, 101, 101, 100, 105, 116, 111, 114, 47, 105, 109, 97, 103, 101, 101, 100, 105, 116, 111, 114, 108, 97, 119, 48, 55, 46, 67, 117, 114, 118, 101, 84, 97, 98, 108, 101, 115, 32, 105, 109, 97, 103, 101, 101, 100, 105, 116, 111, 114, 47, 105, 109, 97, 103, 101, 101, 100, 105, 116, 111, 114, 108, 97, 119, 49, 55, 46, 65, 100, 106, 117, 115, 116, 80, 105, 120, 101, 108, 115, 32, 105, 109, 97, 103, 101, 101, 100, 105, 116, 111, 114, 47, 105, 109, 97, 103, 101, 101, 100, 105, 116, 111, 114, 108, 97, 119, 49, 55, 46, 65, 100, 106, 117, 115, 116, 72, 115, 108, 115, 32, 105, 109, 97, 103, 101, 101, 100, 105, 116, 111, 114, 47, 105, 109, 97, 103, 101, 101, 100, 105, 116, 111, 114, 108, 97, 119, 49, 55, 46, 65, 100, 106, 117, 115, 116, 84, 119, 105, 99, 101, 32, 105, 109, 97, 103, 101, 101, 100, 105, 116, 111, 114, 47, 105, 109, 97, 103, 101, 101, 100, 105, 116, 111, 114, 108, 97, 119, 49, 55, 46, 65, 100, 106, 117, 115, 116, 75, 101, 101, 112, 115, 32, 105, 109, 97, 103, 101, 101, 100, 105, 116, 111, 114, 47, 105, 109, 97, 103, 101, 101, 100, 105, 116, 111, 114, 108, 97, 119, 49, 55, 46, 65, 100, 106, 117, 115, 116, 78, 101, 97, 114, 32, 105, 109, 97, 103, 101, 101, 100, 105, 116, 111, 114, 47, 105, 109, 97, 103, 101, 101, 100, 105, 116, 111, 114, 108, 97, 119, 49, 55, 46, 65, 100, 106, 117, 115, 116, 67, 104, 101, 99, 107, 115, 32, 105, 109, 97, 103, 101, 101, 100, 105, 116, 111, 114, 47, 105, 109, 97, 103, 101, 101, 100, 105, 116, 111, 114, 108, 97, 119, 49, 55, 46, 65, 100, 106, 117, 115, 116, 78, 111, 116, 104, 105, 110, 103]
def letters : List Nat := word0 ++ 32 :: (word1 ++ 32 :: (word2 ++ 32 :: rest))
theorem head : Try.pinned.checked.prog.initOrder = String.ofList (letters.map Char.ofNat) := by kernel_rfl

theorem words_step (r : List Char) (W : List (List Char)) (hW : wordsSigns r = W) : ∀ a : List Char, (∀ c ∈ a, c ≠ Char.ofNat 32) → wordsSigns (a ++ Char.ofNat 32 :: r) = a :: W
  | [], _ => by
    rw [← hW]
    rfl
  | c :: a, h => by
    have h1 := words_step r W hW a (fun x hx => h x (List.mem_cons_of_mem _ hx))
    have h2 : c ≠ Char.ofNat 32 := h c List.mem_cons_self
    rw [List.cons_append]
    unfold wordsSigns
    split
    · rename_i hx
      cases hx
    · rename_i hx
      cases hx
      exact absurd rfl h2
    · rename_i hx
      cases hx
      rw [h1]

theorem words : ∃ ws, wordsSigns (letters.map Char.ofNat) = word0.map Char.ofNat :: word1.map Char.ofNat :: word2.map Char.ofNat :: ws := by
  refine ⟨wordsSigns (rest.map Char.ofNat), ?_⟩
  unfold letters
  rw [List.map_append, List.map_cons, List.map_append, List.map_cons, List.map_append, List.map_cons]
  exact words_step _ _ (words_step _ _ (words_step _ _ rfl _ (by decide +kernel)) _ (by decide +kernel)) _ (by decide +kernel)

theorem behind : ∃ ws, behindMainWord (wordsSigns Try.pinned.checked.prog.initOrder.toList) = word2.map Char.ofNat :: ws := by
  obtain ⟨ws, h⟩ := words
  refine ⟨ws, ?_⟩
  rw [head, String.toList_ofList, h]
  kernel_rfl

/-! ### the three facts, of whatever program whose head reads so -/
theorem strip (ws : List (List Char)) : stripLifts liftWords (word2.map Char.ofNat :: ws) = ([], word2.map Char.ofNat :: ws) := by kernel_rfl
theorem headLifts_of (P : Program) (ws : List (List Char)) (h : behindMainWord (wordsSigns P.initOrder.toList) = word2.map Char.ofNat :: ws) : P.headLifts = [] := by
  unfold Program.headLifts
  rw [h, strip]
  kernel_rfl
theorem liftsFinal_of (P : Program) (ws : List (List Char)) (h : behindMainWord (wordsSigns P.initOrder.toList) = word2.map Char.ofNat :: ws) : P.liftsFinal = false := by
  unfold Program.liftsFinal
  rw [h, headLifts_of P ws h]
  kernel_rfl
theorem make_of (P : Program) (ws : List (List Char)) (h : behindMainWord (wordsSigns P.initOrder.toList) = word2.map Char.ofNat :: ws) : P.make = some .cut := by
  unfold Program.make
  rw [h]
  kernel_rfl
theorem mayEnter_of (P : Program) (ws : List (List Char)) (h : behindMainWord (wordsSigns P.initOrder.toList) = word2.map Char.ofNat :: ws) (h1 : P.laysLater = false) (h2 : P.bearsReflect = false) (h3 : P.doorFits [] = true) : P.mayEnter = true := by
  unfold Program.mayEnter
  rw [h]
  simp only [strip, h1, h2, h3]
  kernel_rfl
theorem laysLater : Try.pinned.checked.prog.laysLater = false := by kernel_rfl
theorem bearsReflect : Try.pinned.checked.prog.bearsReflect = false := by kernel_rfl
theorem doorFits : Try.pinned.checked.prog.doorFits [] = true := by kernel_rfl
theorem liftsFinal : Try.pinned.checked.prog.liftsFinal = false := by
  obtain ⟨ws, h⟩ := behind
  exact liftsFinal_of _ ws h
theorem make : Try.pinned.checked.prog.make = some .cut := by
  obtain ⟨ws, h⟩ := behind
  exact make_of _ ws h
theorem mayEnter : Try.pinned.checked.prog.mayEnter = true := by
  obtain ⟨ws, h⟩ := behind
  exact mayEnter_of _ ws h laysLater bearsReflect doorFits
end Go.Proofs.Ytmgpmpiondciiaa.Head
