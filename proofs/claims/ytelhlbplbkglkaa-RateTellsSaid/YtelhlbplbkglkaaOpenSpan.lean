/- Spans that came in. -/
import Derived.Test.YtelhlbplbkglkaaOpen
namespace Go.Proofs.Ytelhlbplbkglkaa
open Go.ChangeShapes Go.WideShapes Go.RowKit Go.Deep
/-- Span, as the program has it. -/
structure Span where
  lo : Int
  hi : Int
deriving DecidableEq, Inhabited
def Span.cells (d : Span) : List Value := [.int .i64 d.lo, .int .i64 d.hi]
theorem Span.cells_length (d : Span) : d.cells.length = 2 := rfl
theorem Span.one (L : List Span) : ∀ u ∈ L.flatMap Span.cells, u.oneCell' = true := by
  intro u hu
  obtain ⟨d, _, hd⟩ := List.mem_flatMap.1 hu
  simp only [Span.cells, List.mem_cons, List.not_mem_nil, or_false] at hd
  rcases hd with rfl | rfl <;> rfl
def Span.wf (a : Span) : Prop := (Lit.int .i64 a.lo).wf = true ∧ (Lit.int .i64 a.hi).wf = true
set_option maxRecDepth 100000 in
theorem open_Span {H : Type} {enc : TypeId × Value → H} {w : World} {spare : Nat → Bool} {held : Bool} (n : Nat) (cs : List Value) (d : DataW H × List MemPlace) (h : DataW.trod enc Try.prog w 0 spare held n 51 cs = some d) : ∃ a : Span, cs = a.cells ∧ a.wf := by
  obtain ⟨xs, m, rfl, _, hlen, hxs, hf⟩ := DataW.trod_struct Try.underlying51 h
  have hl : cs.length = 2 := hlen.trans (by kernel_rfl)
  have hx : xs.length = 2 := hxs
  have g0 := hf 0 _ rfl
  rw [show Try.prog.cellsOf _ = 1 from by kernel_rfl, List.getElem?_eq_getElem (show 0 < xs.length by omega)] at g0
  have g1 := hf 1 _ rfl
  rw [show Try.prog.cellsOf _ = 1 from by kernel_rfl, List.getElem?_eq_getElem (show 1 < xs.length by omega)] at g1
  match cs, hl with
  | [c0, c1], _ =>
    obtain ⟨a0, e0, _, w0⟩ := DataW.trod_int Try.underlying3 g0
    simp at e0
    subst e0
    obtain ⟨a1, e1, _, w1⟩ := DataW.trod_int Try.underlying3 g1
    simp at e1
    subst e1
    exact ⟨⟨a0, a1⟩, rfl, w0, w1⟩
end Go.Proofs.Ytelhlbplbkglkaa
