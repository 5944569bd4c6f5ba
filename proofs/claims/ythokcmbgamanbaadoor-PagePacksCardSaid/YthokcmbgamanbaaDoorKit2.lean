/- Small laws of the walk, more: boxes. -/
import Derived.Test.YthokcmbgamanbaaDoorKit
namespace Go.Proofs.YthokcmbgamanbaaDoor
open Go.RowKit
/-- A box that was made is kept by whatever keeps all. -/
theorem box_new {S : Nat → Prop} {w w' : World} {cs : Array Value} {t : TypeId} (h : Keeps S (w.alloc (.cells cs t)) w') (hS : ¬ S w.heap.size) : w'.heap[w.heap.size]? = some (.cells cs t (0, 0)) := by
  rw [h.block _ (by simp) hS]; exact heap_alloc_new w _
theorem box_old {S : Nat → Prop} {w w' : World} {b : Nat} {o : Obj} (hb : w.heap[b]? = some o) (h : Keeps S w w') (hS : ¬ S b) : w'.heap[b]? = some o := by
  rw [h.block _ (lt_of_block hb) hS]; exact hb
theorem box_alloc {w : World} {b : Nat} {o : Obj} (hb : w.heap[b]? = some o) (o' : Obj) : (w.alloc o').heap[b]? = some o := (Below.heap_alloc _ _ _ (lt_of_block hb)).trans hb
theorem Reads.below {w w' : World} {size : Nat} {x : Value} {m : Nat} {news : List Value} (h : Reads w size x m news) (hb : Below w.heap.size w w') : Reads w' size x m news := by
  obtain ⟨ad, c, rfl, h1, h2, h3, h4⟩ := h
  refine ⟨ad, c, rfl, h1, h2, h3, fun j u hj => ?_⟩
  obtain ⟨g, o, rfl, ha⟩ := h4 j u hj
  exact ⟨g, o, rfl, by rw [hb.cell (cell_lt ha)]; exact ha⟩
/-- An integer of a slice of integers, read. -/
theorem Reads.int {w : World} {k : IntKind} {ad : Option Addr} {n c : Nat} {L : List Int} (h : Reads w 1 (.slice ad n c) n (L.flatMap fun z => [Value.int k z])) {i : Nat} {x : Int} (hx : L[i]? = some x) :
    ∃ g o, ad = some ⟨g, o, none⟩ ∧ w.cell? ⟨g, o + i, none⟩ = some (.int k x) := by
  obtain ⟨g, o, c', he, hc⟩ := Reads.elem (f := fun z => [Value.int k z]) (fun _ => rfl) h hx (by decide)
  simp only [Value.slice.injEq, true_and] at he
  exact ⟨g, o, he.1, by have := hc 0 (by decide); simpa using this⟩
theorem Reads.bool {w : World} {ad : Option Addr} {n c : Nat} {L : List Bool} (h : Reads w 1 (.slice ad n c) n (L.flatMap fun z => [Value.bool z])) {i : Nat} {x : Bool} (hx : L[i]? = some x) :
    ∃ g o, ad = some ⟨g, o, none⟩ ∧ w.cell? ⟨g, o + i, none⟩ = some (.bool x) := by
  obtain ⟨g, o, c', he, hc⟩ := Reads.elem (f := fun z => [Value.bool z]) (fun _ => rfl) h hx (by decide)
  simp only [Value.slice.injEq, true_and] at he
  exact ⟨g, o, he.1, by have := hc 0 (by decide); simpa using this⟩
theorem wf_i64 {n : Int} (h : (Lit.int .i64 n).wf = true) : -9223372036854775808 ≤ n ∧ n ≤ 9223372036854775807 := by
  simp [Lit.wf, IntKind.min, IntKind.max, IntKind.signed, IntKind.bits] at h
  omega
theorem wf_u64 {n : Int} (h : (Lit.int .u64 n).wf = true) : 0 ≤ n ∧ n ≤ 18446744073709551615 := by
  simp [Lit.wf, IntKind.min, IntKind.max, IntKind.signed, IntKind.bits] at h
  omega
theorem wf_u8 {n : Int} (h : (Lit.int .u8 n).wf = true) : 0 ≤ n ∧ n ≤ 255 := by
  simp [Lit.wf, IntKind.min, IntKind.max, IntKind.signed, IntKind.bits] at h
  omega
end Go.Proofs.YthokcmbgamanbaaDoor
