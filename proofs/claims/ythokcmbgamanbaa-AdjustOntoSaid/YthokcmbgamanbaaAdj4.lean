/- The walks of the adjust layer: one adjust onto a statement. -/
import Derived.Test.YthokcmbgamanbaaAdj3
import Derived.BigQuiet
namespace Go.Proofs.Ythokcmbgamanbaa
open Go.RowKit
/-- Adj, as the program has it. -/
structure Adj where
  seq : Int
  cycle : Int
  tranche : Int
  balance : Int
  interest : Int
  total : Int
  credit : Int
  min : Int
  grace : Int
deriving DecidableEq, Inhabited
def Adj.cells (d : Adj) : List Value := [.int .i64 d.seq, .int .i64 d.cycle, .int .i64 d.tranche, .int .i64 d.balance, .int .i64 d.interest, .int .i64 d.total, .int .i64 d.credit, .int .i64 d.min, .int .i64 d.grace]
theorem Adj.cells_length (d : Adj) : d.cells.length = 9 := rfl
theorem Adj.one (L : List Adj) : ∀ u ∈ L.flatMap Adj.cells, u.oneCell' = true := by
  intro u hu
  obtain ⟨d, _, hd⟩ := List.mem_flatMap.1 hu
  simp only [Adj.cells, List.mem_cons, List.not_mem_nil, or_false] at hd
  rcases hd with rfl | rfl | rfl | rfl | rfl | rfl | rfl | rfl | rfl <;> rfl
/-- A statement of the call's own: its block, and its row of lines. -/
structure OS (w : World) (S : Nat) (s : Stm) (v : Value) : Prop where
  blk : w.heap[S]? = some (.cells #[.int .i64 s.cycle, .int .i64 s.fr, .int .i64 s.to, .int .i64 s.due, v, .int .i64 s.total, .int .i64 s.credit, .int .i64 s.min, .bool s.grace] 44 (0, 0))
  row : w.ownsRow 0 62 3 v s.lines.length (s.lines.flatMap Ln.cells)
def Adj.agg (a : Adj) : Value := .agg #[.int .i64 a.seq, .int .i64 a.cycle, .int .i64 a.tranche, .int .i64 a.balance, .int .i64 a.interest, .int .i64 a.total, .int .i64 a.credit, .int .i64 a.min, .int .i64 a.grace]
set_option maxRecDepth 100000 in
set_option maxHeartbeats 1600000 in
theorem adjOnto_7 (S : Nat) (s : Stm) (v : Value) (a : Adj) (w : World) (h : OS w S s v) (hl : s.lines.length ≤ 1000000) (ht : a.tranche < 0 ∨ (s.lines.length : Int) < a.tranche) :
    Calls Try.prog 54 #[(.pointer (some ⟨S, 0, none⟩)), a.agg] w fun e w' => e = .returned (.int .i64 7) ∧ Keeps (fun _ => False) w w' := by
  have b4 := cell_of_cells h.blk 4
  have hbl := lt_of_block h.blk
  have hsh := ownsRow_shape h.row
  obtain ⟨ad, cap, rfl, _, _⟩ := hsh
  obtain ⟨sq, cy, tr, ba, it, to, cr, mi, gr⟩ := a
  simp only [Adj.agg] at ht ⊢
  obtain ⟨n, hn⟩ : ∃ n, s.lines.length = n := ⟨_, rfl⟩
  rw [hn] at ht b4 hl
  have b4' : w.cell? ⟨S, 4, none⟩ = some (.slice ad n cap) := b4
  have b4b : (w.alloc (.cells #[.int .i64 sq, .int .i64 cy, .int .i64 tr, .int .i64 ba, .int .i64 it, .int .i64 to, .int .i64 cr, .int .i64 mi, .int .i64 gr] 69)).cell? ⟨S, 4, none⟩ = some (.slice ad n cap) := (Keeps.alloc (S := fun _ => False) w _).cell (p := ⟨S, 4, none⟩) hbl (by simp) |>.trans b4'
  clear b4
  have H := Lib.hid h; clear h; have Hn := Lib.hid hn; clear hn
  rcases (show tr < 0 ∨ (¬ tr < 0 ∧ (n : Int) < tr) by omega) with h1 | ⟨h1, h2⟩
  · clear ht
    go_enter Try.func54, Try.ntmps54
    go_wp2
    go_quiet (fail)
    go_wp2
    go_ret
    exact ⟨rfl, (Keeps.alloc _ _).none_trans (Keeps.drewN _ _)⟩
  · clear ht
    go_enter Try.func54, Try.ntmps54
    go_wp2
    go_quiet (fail)
    go_wp2
    go_ret
    exact ⟨rfl, (Keeps.alloc _ _).none_trans (Keeps.drewN _ _)⟩
theorem row_of_heap {w w' : World} {e : TypeId} {size g n cap : Nat} {xs : List Value} (h : w.ownsRow 0 e size (.slice (some ⟨g, 0, none⟩) n cap) n xs) (hh : w'.heap[g]? = w.heap[g]?) : w'.ownsRow 0 e size (.slice (some ⟨g, 0, none⟩) n cap) n xs := by
  obtain ⟨h1, h2⟩ := h
  refine ⟨h1, ?_⟩
  rcases h2 with ⟨e, _⟩ | ⟨g', cap', cur, e, a, b, c⟩
  · simp at e
  · refine .inr ⟨g', cap', cur, e, a, ?_, c⟩
    cases e; rw [hh]; exact b
end Go.Proofs.Ythokcmbgamanbaa
