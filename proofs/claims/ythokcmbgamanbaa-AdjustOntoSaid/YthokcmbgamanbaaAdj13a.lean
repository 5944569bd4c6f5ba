/- AdjustOnto, walked: the statements of the steps, as they lie. -/
import Derived.Test.YthokcmbgamanbaaAdjPl2
import Derived.Deep.DeepCutAuto
namespace Go.Proofs.Ythokcmbgamanbaa
open Go.RowKit
theorem info_tStm : (Try.prog.info? 44).map (fun i => (i.zero, i.size, i.bytes)) = some (some (.agg #[.int .i64 0, .int .i64 0, .int .i64 0, .int .i64 0, .slice none 0 0, .int .i64 0, .int .i64 0, .int .i64 0, .bool false]), 9, 88) := by kernel_rfl
/-- Statements in a row of the call's own, each with a row of lines of its own. -/
structure Pages (w W : World) (v : Value) (L : List SV) : Prop where
  row : W.ownsRow 0 44 9 v L.length (L.flatMap SV.cells)
  ln : ∀ x ∈ L, W.ownsRow 0 62 3 x.v x.s.lines.length (x.s.lines.flatMap Ln.cells)
  fr : Fresh w W v
theorem Pages.keep {w W W' : World} {v : Value} {L : List SV} (h : Pages w W v L) (hk : Keeps (fun _ => False) W W') : Pages w W' v L := ⟨hk.row h.row (by simp), fun x hx => hk.row (h.ln x hx) (by simp), h.fr.keep hk⟩
theorem rows_ne {w : World} {e e' : TypeId} {b b' size size' n n' : Nat} {v v' : Value} {xs xs' : List Value} (h : w.ownsRow b e size v n xs) (h' : w.ownsRow b' e' size' v' n' xs') (hne : e ≠ e') {g : Nat} (hg : v.ownBlock = some g) (hg' : v'.ownBlock = some g) : False := by
  rcases h.2 with ⟨rfl, _⟩ | ⟨g1, cap1, cur1, rfl, _, hh, _⟩
  · simp [Value.ownBlock] at hg
  · simp only [Value.ownBlock, Option.some.injEq] at hg
    subst hg
    exact ownsRow_ne h' hh hne hg'
theorem Pages.app {w W1 w6 : World} {v v6 : Value} {L : List SV} {x : SV} {m : Nat} {xs : List Value} (h : Pages w W1 v L) (hk : Keeps (fun j => v.ownBlock = some j ∨ W1.heap.size ≤ j) W1 w6) (hm : m = L.length + 1) (hx : xs = L.flatMap SV.cells ++ x.cells) (hr : w6.ownsRow 0 44 9 v6 m xs)
    (hl : w6.ownsRow 0 62 3 x.v x.s.lines.length (x.s.lines.flatMap Ln.cells)) (hf : v6.ownBlock = v.ownBlock ∨ ∃ g, v6.ownBlock = some g ∧ W1.heap.size ≤ g) : Pages w w6 v6 (L ++ [x]) := by
  have hsz := h.fr.1.size
  subst hm hx
  refine ⟨by simpa using hr, fun y hy => ?_, h.fr.1.trans (hk.mono fun i _ e => .inr ?_), fun g hg => ?_⟩
  · rcases List.mem_append.1 hy with hy | hy
    · refine hk.row (h.ln y hy) fun g hg e => ?_
      rcases e with e | e
      · exact rows_ne (h.ln y hy) h.row (by decide) hg e
      · have := own_lt (h.ln y hy) hg; omega
    · obtain rfl : y = x := by simpa using hy
      exact hl
  · rcases e with e | e
    · exact h.fr.2 i e
    · omega
  · rcases hf with e | ⟨g', e, h'⟩
    · exact h.fr.2 g (by rw [← e]; exact hg)
    · rw [e] at hg; simp only [Option.some.injEq] at hg; omega
end Go.Proofs.Ythokcmbgamanbaa
