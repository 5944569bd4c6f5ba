/- The walks of the script layer: the reference's Decode, its terms. -/
import Derived.Test.YthokcmbgamanbaaScript4
namespace Go.Proofs.Ythokcmbgamanbaa
open Go.RowKit
/-- Whilst the reference reads terms. -/
structure RS (w w' : World) (bv : Value) (B : List Int) (C : Array Value) (v : Value) (L : List Tr) (k : Nat) : Prop where
  rd : RRdAt w.heap.size w' (w.heap.size + 1) bv B k
  res : w'.heap[w.heap.size]? = some (.cells (zTm (.slice none 0 0)) 27 (0, 0))
  blk : w'.heap[w.heap.size + 2]? = some (.cells C 27 (0, 0))
  row : w'.ownsRow 0 81 2 v L.length (L.flatMap Tr.cells)
  new : ∀ g, v.ownBlock = some g → w.heap.size ≤ g
  kp : Keeps (fun _ => False) w w'
section
variable {w w' w'' : World} {bv : Value} {B : List Int} {C : Array Value} {v v' : Value} {L : List Tr} {k : Nat}
theorem RS.num (h : RS w w' bv B C v L k) (hr : RRdAt w.heap.size w'' (w.heap.size + 1) bv B (k + 1)) (hk : Keeps (fun j => j = w.heap.size + 1) w' w'') : RS w w'' bv B C v L (k + 1) :=
  ⟨hr, box_old h.res hk (by omega), box_old h.blk hk (by omega), hk.row h.row (fun g hg e => by subst e; exact ownsRow_ne h.row h.rd.blk (by decide) hg), h.new, h.kp.trans (hk.mono fun _ _ e => by right; omega)⟩
theorem RS.keep {S : Nat → Prop} (h : RS w w' bv B C v L k) (hk : Keeps S w' w'') (hS : ∀ j, S j → w.heap.size + 2 < j ∧ v.ownBlock ≠ some j) : RS w w'' bv B C v L k :=
  ⟨h.rd.keeps hk (fun j hj => by have := (hS j hj).1; omega), box_old h.res hk (fun hs => by have := (hS _ hs).1; omega), box_old h.blk hk (fun hs => by have := (hS _ hs).1; omega), hk.row h.row (fun g hg e => (hS g e).2 hg), h.new, h.kp.trans (hk.mono fun j _ hj => by have := (hS j hj).1; right; omega)⟩
theorem RS.set (h : RS w w' bv B C v L k) (i : Nat) (x : Value) (hi : (w'.setCell ⟨w.heap.size + 2, i, none⟩ x).heap[w.heap.size + 2]? = some (.cells (C.setIfInBounds i x) 27 (0, 0))) : RS w (w'.setCell ⟨w.heap.size + 2, i, none⟩ x) bv B (C.setIfInBounds i x) v L k := by
  have hk : Keeps (fun j => j = w.heap.size + 2) w' (w'.setCell ⟨w.heap.size + 2, i, none⟩ x) := Keeps.setCell _ _ _ rfl
  exact ⟨h.rd.keeps hk (fun j hj => by omega), box_old h.res hk (by omega), hi, ownsRow_setCell_other h.row (ownsRow_ne h.row h.blk (by decide)) _, h.new, h.kp.trans (hk.mono fun j _ hj => by right; omega)⟩
theorem RS.app {x : Tr} {L' : List Tr} {C' : Array Value} {cap' n' : Nat} {ad' : Option Addr} (h : RS w w' bv B C v L k) (ho : w''.ownsRow 0 81 2 (.slice ad' n' cap') (L.length + 1) (L.flatMap Tr.cells ++ x.cells)) (hL : L' = L ++ [x]) (hk : Keeps (fun i => v.ownBlock = some i) w' w'') (hf : (Value.slice ad' n' cap').ownBlock = v.ownBlock ∨ ∃ g, (Value.slice ad' n' cap').ownBlock = some g ∧ w'.heap.size ≤ g)
    (hC : C' = C.setIfInBounds 1 (.slice ad' n' cap')) :
    (∀ j, w''.cell? ⟨w.heap.size + 2, j, none⟩ = C[j]?) ∧ (∀ j, w''.frozen? ⟨w.heap.size + 2, j, none⟩ = false) ∧ w.heap.size + 2 < w''.heap.size ∧ RS w (w''.setCell ⟨w.heap.size + 2, 1, none⟩ (.slice ad' n' cap')) bv B C' (.slice ad' n' cap') L' k := by
  have hs := h.kp.size
  have hb := box_old h.blk hk (ownsRow_ne h.row h.blk (by decide))
  subst hL
  subst hC
  have hmid : RS w w'' bv B C (.slice ad' n' cap') (L ++ [x]) k := by
    refine ⟨h.rd.keeps hk (fun i hi => ⟨h.new i hi, fun e => ?_⟩), box_old h.res hk (ownsRow_ne h.row h.res (by decide)), hb, ?_, fun g hg => ?_, h.kp.trans (hk.mono fun i _ hi => .inr (h.new i hi))⟩
    · subst e; exact ownsRow_ne h.row h.rd.blk (by decide) hi
    · rw [List.flatMap_append]; simpa using ho
    · rcases hf with hf | ⟨g', hg', hh⟩
      · exact h.new g (by rw [← hf]; exact hg)
      · rw [hg'] at hg; simp only [Option.some.injEq] at hg; omega
  exact ⟨fun j => cell_of_cells hb j, fun j => free_of_cells hb j, lt_of_block hb, hmid.set 1 _ (heap_setCell_same _ _ 1 _ _ _ hb)⟩
end
end Go.Proofs.Ythokcmbgamanbaa
