/- AdjustOnto, walked: what the last regions ask. -/
import Derived.Test.YthokcmbgamanbaaAdjPl2
import Derived.Test.YthokcmbgamanbaaAdj13a
namespace Go.Proofs.Ythokcmbgamanbaa
open Go.RowKit
/-- The cells of two statements. -/
def OntoS (B g l : Nat) (cy fr tt du tot cre mi : Int) (gr : Bool) (v1 v2 : Value) (w : World) : Prop :=
  w.cell? ⟨B, 0, none⟩ = some (.int .i64 cy) ∧
  w.cell? ⟨B, 1, none⟩ = some (.int .i64 fr) ∧
  w.cell? ⟨B, 2, none⟩ = some (.int .i64 tt) ∧
  w.cell? ⟨B, 3, none⟩ = some (.int .i64 du) ∧
  w.cell? ⟨B, 4, none⟩ = some (v1) ∧
  w.cell? ⟨B, 5, none⟩ = some (.int .i64 tot) ∧
  w.cell? ⟨B, 6, none⟩ = some (.int .i64 cre) ∧
  w.cell? ⟨B, 7, none⟩ = some (.int .i64 mi) ∧
  w.cell? ⟨B, 8, none⟩ = some (.bool gr) ∧
  w.cell? ⟨g, l * 9, none⟩ = some (.int .i64 cy) ∧
  w.cell? ⟨g, l * 9 + 1, none⟩ = some (.int .i64 fr) ∧
  w.cell? ⟨g, l * 9 + 2, none⟩ = some (.int .i64 tt) ∧
  w.cell? ⟨g, l * 9 + 3, none⟩ = some (.int .i64 du) ∧
  w.cell? ⟨g, l * 9 + 4, none⟩ = some (v2) ∧
  w.cell? ⟨g, l * 9 + 5, none⟩ = some (.int .i64 tot) ∧
  w.cell? ⟨g, l * 9 + 6, none⟩ = some (.int .i64 cre) ∧
  w.cell? ⟨g, l * 9 + 7, none⟩ = some (.int .i64 mi) ∧
  w.cell? ⟨g, l * 9 + 8, none⟩ = some (.bool gr)
theorem OntoS.keep {B g l : Nat} {cy fr tt du tot cre mi : Int} {gr : Bool} {v1 v2 : Value} {w w' : World} (h : OntoS B g l cy fr tt du tot cre mi gr v1 v2 w) (hk : Keeps (fun _ => False) w w') : OntoS B g l cy fr tt du tot cre mi gr v1 v2 w' := by
  obtain ⟨h0, h1, h2, h3, h4, h5, h6, h7, h8, h9, h10, h11, h12, h13, h14, h15, h16, h17⟩ := h
  exact ⟨(hk.cell (cell_lt h0) (by simp)).trans h0, (hk.cell (cell_lt h1) (by simp)).trans h1, (hk.cell (cell_lt h2) (by simp)).trans h2, (hk.cell (cell_lt h3) (by simp)).trans h3, (hk.cell (cell_lt h4) (by simp)).trans h4, (hk.cell (cell_lt h5) (by simp)).trans h5, (hk.cell (cell_lt h6) (by simp)).trans h6, (hk.cell (cell_lt h7) (by simp)).trans h7, (hk.cell (cell_lt h8) (by simp)).trans h8, (hk.cell (cell_lt h9) (by simp)).trans h9, (hk.cell (cell_lt h10) (by simp)).trans h10, (hk.cell (cell_lt h11) (by simp)).trans h11, (hk.cell (cell_lt h12) (by simp)).trans h12, (hk.cell (cell_lt h13) (by simp)).trans h13, (hk.cell (cell_lt h14) (by simp)).trans h14, (hk.cell (cell_lt h15) (by simp)).trans h15, (hk.cell (cell_lt h16) (by simp)).trans h16, (hk.cell (cell_lt h17) (by simp)).trans h17⟩
theorem side_reads {w W : World} {g cv q j : Nat} {L : List SV} {x : SV} (hp : Pages w W (.slice (some ⟨g, 0, none⟩) q cv) L) (hq : L.length = q) (hx : L[j]? = some x) : Reads W 9 (.slice (some ⟨g, j * 9, none⟩) 1 (cv - j)) 1 ([x].flatMap SV.cells) := by
  have h1 : Reads W 9 (.slice (some ⟨g, 0, none⟩) q cv) q (L.flatMap SV.cells) := by have h := Reads.of_owns hp.row; rw [hq] at h; exact h
  have hj : j < q := by rw [← hq]; exact lt_of_get hx
  have h2 := h1.sufL SV.cells_length j (by omega)
  have h3 := h2.preL SV.cells_length 1 (by omega)
  have e : (L.drop j).take 1 = [x] := by
    obtain ⟨hl, he⟩ := List.getElem?_eq_some_iff.1 hx
    rw [List.drop_eq_getElem_cons hl, he]; rfl
  rw [e, Nat.zero_add] at h3
  exact h3
theorem between_side {w W : World} {g cv q j k N a b : Nat} {L : List SV} {x y : SV} {M M' : List Int} (seq : Int) (hp : Pages w W (.slice (some ⟨g, 0, none⟩) q cv) L) (hq : L.length = q) (hx : L[j]? = some x) (hy : L[k]? = some y) (hxs : x.s = pageOf N a M) (hys : y.s = pageOf N b M') (hN : N ≤ 4) :
    Calls Try.prog 27 #[.int .i64 seq, .slice (some ⟨g, j * 9, none⟩) 1 (cv - j), .slice (some ⟨g, k * 9, none⟩) 1 (cv - k)] W fun e w' => ∃ v, e = .returned (.tuple #[v, .int .i64 0]) ∧ w'.ownsRow 0 69 9 v (oneAdj seq x.s y.s).length ((oneAdj seq x.s y.s).flatMap Adj.cells) ∧ Fresh W w' v := by
  have hlx : x.s.lines.length ≤ 1000 := by rw [hxs]; simp [pageOf]; omega
  have hly : y.s.lines.length ≤ 1000 := by rw [hys]; simp [pageOf]; omega
  exact adjBetween_any seq _ _ _ _ [x] [y] W (side_reads hp hq hx) (side_reads hp hq hy) (by simp) (by simp)
    (by rintro z hz; simp at hz; subst hz; exact ⟨Reads.of_owns (hp.ln _ (List.mem_of_getElem? hx)), hlx⟩)
    (by rintro z hz; simp at hz; subst hz; exact ⟨Reads.of_owns (hp.ln _ (List.mem_of_getElem? hy)), hly⟩) (0, oneAdj seq x.s y.s) (betw_side seq N a b x y M M' hxs hys)
theorem onto_good {s t : Stm} {A : List Adj} {w w' : World} {e : Ending} (h : OntoPost s A w e w') (hc : s.ontos A = (0, t)) : ∃ v, e = .returned (.tuple #[t.val v, .int .i64 0]) ∧ w'.ownsRow 0 62 3 v t.lines.length (t.lines.flatMap Ln.cells) ∧ Keeps (fun _ => False) w w' := by
  obtain ⟨hk, ⟨_, v, he, hr, _⟩ | ⟨h0, _⟩⟩ := h
  · rw [hc] at he hr; exact ⟨v, he, hr, hk⟩
  · exact absurd (by rw [hc]) h0
theorem Pages.keepA {w W W' : World} {v va : Value} {L : List SV} {n : Nat} {xs : List Value} (h : Pages w W v L) (ha : W.ownsRow 0 69 9 va n xs) (hfa : ∀ g, va.ownBlock = some g → w.heap.size ≤ g) (hk : Keeps (fun j => va.ownBlock = some j) W W') : Pages w W' v L :=
  ⟨hk.row h.row (fun g hg e => rows_ne h.row ha (by decide) hg e), fun x hx => hk.row (h.ln x hx) (fun g hg e => rows_ne (h.ln x hx) ha (by decide) hg e), h.fr.1.trans (hk.mono fun i _ e => .inr (hfa i e)), h.fr.2⟩
end Go.Proofs.Ythokcmbgamanbaa
