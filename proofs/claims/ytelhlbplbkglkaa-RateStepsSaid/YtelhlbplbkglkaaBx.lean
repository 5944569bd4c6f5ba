/- A box that holds an event. -/
import Derived.Test.YtelhlbplbkglkaaTerms
namespace Go.Proofs.Ytelhlbplbkglkaa
open Go.RowKit
def bxS (E : Nat) (ki da tr am re : Int) (w : World) : Prop :=
  w.cell? ⟨E, 0, none⟩ = some (.int .i64 ki) ∧ w.cell? ⟨E, 1, none⟩ = some (.int .i64 da) ∧ w.cell? ⟨E, 2, none⟩ = some (.int .i64 tr) ∧ w.cell? ⟨E, 3, none⟩ = some (.int .i64 am) ∧ w.cell? ⟨E, 4, none⟩ = some (.int .i64 re)
theorem bxS.of {E : Nat} {ki da tr am re : Int} {w : World} (he : w.heap[E]? = some (.cells #[.int .i64 ki, .int .i64 da, .int .i64 tr, .int .i64 am, .int .i64 re] 34 (0, 0))) : bxS E ki da tr am re w :=
  ⟨cell_of_cells he 0, cell_of_cells he 1, cell_of_cells he 2, cell_of_cells he 3, cell_of_cells he 4⟩
end Go.Proofs.Ytelhlbplbkglkaa
