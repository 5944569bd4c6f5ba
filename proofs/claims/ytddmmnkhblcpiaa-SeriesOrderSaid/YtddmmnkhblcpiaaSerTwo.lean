/- Two series of the call's own, side by side, and two rows of what is set. -/
import Derived.Test.YtddmmnkhblcpiaaSerOrdPlain
import Derived.Test.YtddmmnkhblcpiaaKit3
namespace Go.Proofs.Ytddmmnkhblcpiaa
open Go.RowKit
theorem rows_apart {w : World} {base base' : Nat} {e e' : TypeId} {size size' : Nat} {v v' : Value} {n n' : Nat} {xs xs' : List Value} (h : w.ownsRow base e size v n xs) (h' : w.ownsRow base' e' size' v' n' xs') (hne : e ≠ e') {g : Nat} (hg : v.ownBlock = some g) : v'.ownBlock ≠ some g := by
  rcases h.2 with ⟨rfl, _⟩ | ⟨g1, cap1, cur1, rfl, _, hh1, _⟩
  · simp [Value.ownBlock] at hg
  · simp only [Value.ownBlock, Option.some.injEq] at hg
    subst hg
    exact ownsRow_ne h' hh1 hne
structure Two (w0 w : World) (b1 : Nat) (v1 : Value) (L1 : List Turn) (b2 : Nat) (v2 : Value) (L2 : List Turn) (lv mv : Value) (n : Nat) (S T : List Turn) : Prop where
  s1 : SerAt w b1 v1 (clampT 0) L1
  s2 : SerAt w b2 v2 (clampT 0) L2
  ap : ∀ k, Foot b1 v1 k → ¬ Foot b2 v2 k
  f1 : ∀ k, Foot b1 v1 k → w0.heap.size ≤ k
  f2 : ∀ k, Foot b2 v2 k → w0.heap.size ≤ k
  kp : Keeps (fun _ => False) w0 w
  rl : w.ownsRow 0 30 2 lv n (S.flatMap Turn.cells)
  rm : w.ownsRow 0 30 2 mv n (T.flatMap Turn.cells)
section
variable {w0 w w' : World} {b1 : Nat} {v1 : Value} {L1 L1' : List Turn} {b2 : Nat} {v2 : Value} {L2 L2' : List Turn} {lv mv : Value} {n : Nat} {S T : List Turn} {r : Value} {e : Ending}
theorem ser_row {x : Value} {b : Nat} {v : Value} {f : Int} {L : List Turn} {xs : List Value} (h : SerAt w b v f L) (hr : w.ownsRow 0 30 2 x n xs) : ∀ k, x.ownBlock = some k → ¬ Foot b v k := by
  rintro k hk (rfl | hf)
  · exact ownsRow_ne hr h.blk (by decide) hk
  · exact rows_apart h.row hr (by decide) hf hk
theorem Two.keep (h : Two w0 w b1 v1 L1 b2 v2 L2 lv mv n S T) (hk : Keeps (fun _ => False) w w') : Two w0 w' b1 v1 L1 b2 v2 L2 lv mv n S T :=
  ⟨h.s1.keeps hk (by simp), h.s2.keeps hk (by simp), h.ap, h.f1, h.f2, h.kp.trans (hk.mono (by simp)), hk.row h.rl (by simp), hk.row h.rm (by simp)⟩
theorem Two.one (h : Two w0 w b1 v1 L1 b2 v2 L2 lv mv n S T) (hp : SerPost w b1 v1 (clampT 0) L1' r e w') : e = .returned r ∧ ∃ v1', Two w0 w' b1 v1' L1' b2 v2 L2 lv mv n S T ∧ Keeps (Foot b1 v1) w w' := by
  obtain ⟨he, v1', g1, g2, g3⟩ := hp
  have hs := h.kp.size
  refine ⟨he, v1', ⟨g1, h.s2.keeps g2 (fun k hk hf => h.ap k hf hk), fun k hk hf => ?_, fun k hk => ?_, h.f2, h.kp.trans (g2.mono fun k _ hk => .inr (h.f1 k hk)), g2.row h.rl (ser_row h.s1 h.rl), g2.row h.rm (ser_row h.s1 h.rm)⟩, g2⟩
  · rcases g3 k hk with h4 | h4
    · exact h.ap k h4 hf
    · have := h.s2.lt k hf; omega
  · rcases g3 k hk with h4 | h4
    · exact h.f1 k h4
    · omega
theorem Two.two (h : Two w0 w b1 v1 L1 b2 v2 L2 lv mv n S T) (hp : SerPost w b2 v2 (clampT 0) L2' r e w') : e = .returned r ∧ ∃ v2', Two w0 w' b1 v1 L1 b2 v2' L2' lv mv n S T ∧ Keeps (Foot b2 v2) w w' := by
  obtain ⟨he, v2', g1, g2, g3⟩ := hp
  have hs := h.kp.size
  refine ⟨he, v2', ⟨h.s1.keeps g2 (fun k hk hf => h.ap k hk hf), g1, fun k hk hf => ?_, h.f1, fun k hk => ?_, h.kp.trans (g2.mono fun k _ hk => .inr (h.f2 k hk)), g2.row h.rl (ser_row h.s2 h.rl), g2.row h.rm (ser_row h.s2 h.rm)⟩, g2⟩
  · rcases g3 k hf with h4 | h4
    · exact h.ap k hk h4
    · have := h.s1.lt k hk; omega
  · rcases g3 k hk with h4 | h4
    · exact h.f2 k h4
    · omega
end
end Go.Proofs.Ytddmmnkhblcpiaa
