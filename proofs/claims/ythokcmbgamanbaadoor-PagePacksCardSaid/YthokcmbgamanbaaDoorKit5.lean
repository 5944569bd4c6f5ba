/- Small laws of the walk, more: a label that is fallen into and jumped back to (the same as wp_scope_jumps3 of XAdj8, under another name). -/
import Derived.Test.YthokcmbgamanbaaDoorKit4
namespace Go.Proofs.YthokcmbgamanbaaDoor
open Go.RowKit
theorem wp_scope_back {P : Program} {a : Act} {w : World} {Q : Exit → Act → World → Prop} {c rest : Code} (l : Nat) (J : Act → World → Prop) (M : Act → World → Nat) (hf : findLabel c l = some (Code.skip.seq rest))
    (round : ∀ a w, J a w → rest.wp P (Exit.jump l (fun a' w' => J a' w' ∧ M a' w' < M a w) Q) a w)
    (first : (∀ a w, J a w → rest.wp P (Exit.jump l J Q) a w) → c.wp P (Exit.jump l J Q) a w) : (Code.scope c).wp P Q a w := by
  refine wp_scope_jumps2 l J M hf (fun a w hJ => wp_seq (wp_skip (round a w hJ))) fun _ => first fun a w hJ => Code.wp_mono ?_ (round a w hJ)
  intro e a' w' h
  cases e with
  | goto k => exact ⟨h.1, h.2.1⟩
  | _ => exact h
theorem own_lt {w : World} {base : Nat} {e : TypeId} {size : Nat} {v : Value} {n : Nat} {xs : List Value} (h : w.ownsRow base e size v n xs) {g : Nat} (hv : v.ownBlock = some g) : g < w.heap.size := by
  rcases h.2 with ⟨rfl, _⟩ | ⟨g', cap, cur, rfl, _, hh, _⟩
  · simp [Value.ownBlock] at hv
  · simp only [Value.ownBlock, Option.some.injEq] at hv; subst hv; exact lt_of_block hh
theorem rows_ne {w : World} {e e' : TypeId} {b b' size size' n n' : Nat} {v v' : Value} {xs xs' : List Value} (h : w.ownsRow b e size v n xs) (h' : w.ownsRow b' e' size' v' n' xs') (hne : e ≠ e') {g : Nat} (hg : v.ownBlock = some g) (hg' : v'.ownBlock = some g) : False := by
  rcases h.2 with ⟨rfl, _⟩ | ⟨g1, cap1, cur1, rfl, _, hh, _⟩
  · simp [Value.ownBlock] at hg
  · simp only [Value.ownBlock, Option.some.injEq] at hg
    subst hg
    exact ownsRow_ne h' hh hne hg'
end Go.Proofs.YthokcmbgamanbaaDoor
