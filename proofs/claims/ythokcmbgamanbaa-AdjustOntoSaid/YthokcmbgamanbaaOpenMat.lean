/- What comes in: a slice of slices of numbers, as a list of lists. -/
import Derived.Test.YthokcmbgamanbaaOpen
import Derived.Test.YthokcmbgamanbaaAdj12
namespace Go.Proofs.Ythokcmbgamanbaa
open Go.ChangeShapes Go.WideShapes Go.ChangeAt Go.RowKit Go.Deep
section
variable {H : Type} {enc : TypeId × Value → H} {w : World} {spare : Nat → Bool} {held : Bool}
theorem open_SI {fuel : Nat} {cs : List Value} {x : DataW H × List MemPlace} {t e : TypeId} (ht : Try.prog.underlying t = some (.slice e)) (he : Try.prog.underlying e = some (.int .i64)) (hc : Try.prog.cellsOf e = 1) (h : DataW.trod enc Try.prog w 0 spare held fuel t cs = some x) :
    ∃ a : SI, cs = SI.cells a ∧ (Reads w 1 a.v a.L.length (a.L.flatMap i64c) ∧ a.L.length ≤ maxLen) := by
  rcases open_slice ht h with ⟨h0, _⟩ | ⟨a, len', cap', m, n, D, Pl, h0, _⟩
  · subst h0; exact ⟨⟨none, 0, []⟩, rfl, Reads.nil _ _, Nat.zero_le _⟩
  · subst h0
    obtain ⟨L, h1, h2, _, h4⟩ := open_reads (f := i64c) (size := 1) (p := fun a => (Lit.int .i64 a).wf = true) i64c_length (by decide) ht hc (fun n cs d hd => elem_int he n cs d hd) h
    subst h1; exact ⟨⟨some a, cap', L⟩, rfl, h2, h4⟩
end
end Go.Proofs.Ythokcmbgamanbaa
