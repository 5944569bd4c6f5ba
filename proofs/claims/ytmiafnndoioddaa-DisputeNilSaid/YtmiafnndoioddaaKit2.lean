/- Small laws of the walk, more: boxes. -/
import Derived.Test.YtmiafnndoioddaaKit
namespace Go.Proofs.Ytmiafnndoioddaa
open Go.RowKit
/-- A box that was made is kept by whatever keeps all. -/
theorem box_new {S : Nat → Prop} {w w' : World} {cs : Array Value} {t : TypeId} (h : Keeps S (w.alloc (.cells cs t)) w') (hS : ¬ S w.heap.size) : w'.heap[w.heap.size]? = some (.cells cs t (0, 0)) := by
  rw [h.block _ (by simp) hS]; exact heap_alloc_new w _
theorem box_old {S : Nat → Prop} {w w' : World} {b : Nat} {o : Obj} (hb : w.heap[b]? = some o) (h : Keeps S w w') (hS : ¬ S b) : w'.heap[b]? = some o := by
  rw [h.block _ (lt_of_block hb) hS]; exact hb
theorem box_alloc {w : World} {b : Nat} {o : Obj} (hb : w.heap[b]? = some o) (o' : Obj) : (w.alloc o').heap[b]? = some o := (Below.heap_alloc _ _ _ (lt_of_block hb)).trans hb
end Go.Proofs.Ytmiafnndoioddaa
