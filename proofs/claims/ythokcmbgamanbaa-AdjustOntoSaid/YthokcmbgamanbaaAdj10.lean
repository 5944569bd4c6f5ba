/- The walks of the adjust layer: awake. -/
import Derived.Test.YthokcmbgamanbaaAdj9
namespace Go.Proofs.Ythokcmbgamanbaa
open Go.RowKit
theorem betw_of (seq : Int) (L M : List SV) (h : L.length = M.length ∧ Alike L M L.length) : Betw seq L M (betRec seq L M []) := .inl ⟨h, rfl⟩
theorem alike_one {a b : SV} (h : alikeB a.s b.s = true) : [a].length = [b].length ∧ Alike [a] [b] [a].length :=
  ⟨rfl, fun i x y hi hx hy => by obtain rfl : i = 0 := by simp at hi; omega
                                 simp at hx hy; subst hx; subst hy; exact h⟩
def stA : Stm := ⟨1, 0, 0, 0, 5, 0, 0, false, [⟨5, 0, 0⟩]⟩
def stB : Stm := ⟨1, 0, 0, 0, 7, 0, 0, false, [⟨7, 0, 0⟩]⟩
/-- A slice of one statement that the call itself laid. -/
theorem reads_one {w : World} {B : Nat} {s : Stm} {ad : Option Addr} {c : Nat} {fz : Nat × Nat} (h : w.heap[B]? = some (.cells (SV.cells ⟨s, ad, c⟩).toArray 44 fz)) : Reads w 9 (.slice (some ⟨B, 0, none⟩) 1 1) 1 ([(⟨s, ad, c⟩ : SV)].flatMap SV.cells) := by
  have := Reads.blk (size := 9) (n := 1) h (by simp [SV.cells])
  simpa using this
theorem reads_line {w : World} {B : Nat} {x : Ln} {fz : Nat × Nat} (h : w.heap[B]? = some (.cells x.cells.toArray 62 fz)) : Reads w 3 (.slice (some ⟨B, 0, none⟩) 1 1) 1 ([x].flatMap Ln.cells) := by
  have := Reads.blk (size := 3) (n := 1) h (by simp [Ln.cells])
  simpa using this
/-- Between, of one statement and another, that the call itself laid. -/
theorem between_one (seq : Int) (B1 B2 : Nat) (a b : SV) (r : Int × List Adj) (W : World) (h1 : W.heap[B1]? = some (.cells a.cells.toArray 44 (0, 0))) (h2 : W.heap[B2]? = some (.cells b.cells.toArray 44 (0, 0)))
    (ha : Reads W 3 a.v a.s.lines.length (a.s.lines.flatMap Ln.cells) ∧ a.s.lines.length ≤ 1000) (hb : Reads W 3 b.v b.s.lines.length (b.s.lines.flatMap Ln.cells) ∧ b.s.lines.length ≤ 1000) (hr : Betw seq [a] [b] r) :
    Calls Try.prog 27 #[.int .i64 seq, .slice (some ⟨B1, 0, none⟩) 1 1, .slice (some ⟨B2, 0, none⟩) 1 1] W (BetPost W r) :=
  adjBetween_any seq _ _ 1 1 [a] [b] W (reads_one h1) (reads_one h2) (by simp) (by simp) (by rintro x hx; simp at hx; subst hx; exact ha) (by rintro x hx; simp at hx; subst hx; exact hb) r hr
theorem awake21_bet (w : World) (g1 g2 : Nat) : Betw 3 [⟨stA, some ⟨g1, 0, none⟩, 1⟩] [⟨stB, some ⟨g2, 0, none⟩, 1⟩] (0, [⟨3, 1, 1, 2, 0, 0, 0, 0, 0⟩, ⟨3, 1, 0, 0, 0, 2, 0, 0, 0⟩]) :=
  .inl ⟨alike_one rfl, rfl⟩
set_option maxRecDepth 100000 in
set_option maxHeartbeats 1600000 in
theorem awake21_any (w : World) : Calls Try.prog 25 #[] w fun e w' => e = .returned (.bool true) ∧ Keeps (fun _ => False) w w' := by
  go_enter Try.func25, Try.ntmps25
  go_wp2_with fail
  refine (between_one 3 _ _ ⟨stA, some ⟨w.heap.size, 0, none⟩, 1⟩ ⟨stB, some ⟨w.heap.size + 1 + 1, 0, none⟩, 1⟩ _ _ (by (repeat (first | exact heap_alloc_at _ _ (by simp; done) | refine box_alloc ?_ _))) (by (repeat (first | exact heap_alloc_at _ _ (by simp; done) | refine box_alloc ?_ _))) ⟨reads_line (x := ⟨5, 0, 0⟩) (by (repeat (first | exact heap_alloc_at _ _ (by simp; done) | refine box_alloc ?_ _))), by simp [stA, stB]⟩ ⟨reads_line (x := ⟨7, 0, 0⟩) (by (repeat (first | exact heap_alloc_at _ _ (by simp; done) | refine box_alloc ?_ _))), by simp [stA, stB]⟩ (awake21_bet w _ _)).mono ?_
  rintro e w1 ⟨v, rfl, hrow, hfr⟩
  obtain ⟨g, cap, rfl, hgl⟩ := owns_some hrow (by decide)
  have c0 : w1.cell? ⟨g, 0 * 9 + 3, none⟩ = some (.int .i64 2) := owns_elem Adj.cells_length hrow (k := 0) (x := ⟨3, 1, 1, 2, 0, 0, 0, 0, 0⟩) rfl 3 (by decide)
  have c1 : w1.cell? ⟨g, 1 * 9 + 5, none⟩ = some (.int .i64 2) := owns_elem Adj.cells_length hrow (k := 1) (x := ⟨3, 1, 0, 0, 0, 2, 0, 0, 0⟩) rfl 5 (by decide)
  have c2 : w1.cell? ⟨g, 0 * 9 + 0, none⟩ = some (.int .i64 3) := owns_elem Adj.cells_length hrow (k := 0) (x := ⟨3, 1, 1, 2, 0, 0, 0, 0, 0⟩) rfl 0 (by decide)
  simp only [Nat.zero_mul, Nat.zero_add, Nat.one_mul] at c0 c1 c2
  have hk : Keeps (fun _ => False) w w1 := Keeps.none_trans (by (repeat (first | exact Keeps.refl _ _ | exact Keeps.alloc _ _ | exact Keeps.drew _ | exact Keeps.drewN _ _ | refine Keeps.trans_drew ?_ | refine Keeps.trans_drewN ?_ | refine Keeps.trans_alloc ?_))) hfr.1
  have Hrow := Lib.hid hrow; clear hrow; have Hfr := Lib.hid hfr; clear hfr; have Hk := Lib.hid hk; clear hk
  go_wp2_with fail
  go_ret
  exact ⟨rfl, Hk.out⟩
end Go.Proofs.Ythokcmbgamanbaa
