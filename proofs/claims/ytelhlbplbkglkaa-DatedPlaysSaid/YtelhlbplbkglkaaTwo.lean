/- A list of events and a row of events, side by side in the call's own memory. -/
import Derived.Test.YtelhlbplbkglkaaDated6
import Derived.Test.YtelhlbplbkglkaaRDat2
namespace Go.Proofs.Ytelhlbplbkglkaa
open Go.RowKit
structure Two (w0 W : World) (B : Nat) (t : Tm) (L : List Ev) (vR : Value) (R : List Ev) (vt v : Value) : Prop where
  dl : DL W B t vt L v
  row : W.ownsRow 0 34 5 vR R.length (R.flatMap Ev.cells)
  kp : Keeps (fun _ => False) w0 W
  fB : w0.heap.size ≤ B
  fv : ∀ g, v.ownBlock = some g → w0.heap.size ≤ g
  fR : ∀ g, vR.ownBlock = some g → w0.heap.size ≤ g
  ap : ∀ g, v.ownBlock = some g → vR.ownBlock ≠ some g
def TwoAt (w0 W : World) (B : Nat) (t : Tm) (L : List Ev) (vR : Value) (R : List Ev) : Prop := ∃ vt v, Two w0 W B t L vR R vt v
section
variable {w0 W W' : World} {B : Nat} {t : Tm} {L : List Ev} {vR : Value} {R : List Ev}
theorem TwoAt.my (h : TwoAt w0 W B t L vR R) : MyDL w0 W B t L := by obtain ⟨vt, v, h⟩ := h; exact ⟨vt, v, h.dl, h.kp, h.fB, h.fv⟩
theorem TwoAt.reads (h : TwoAt w0 W B t L vR R) : W.ownsRow 0 34 5 vR R.length (R.flatMap Ev.cells) := by obtain ⟨vt, v, h⟩ := h; exact h.row
theorem TwoAt.kp (h : TwoAt w0 W B t L vR R) : Keeps (fun _ => False) w0 W := by obtain ⟨vt, v, h⟩ := h; exact h.kp
theorem TwoAt.keep (h : TwoAt w0 W B t L vR R) (hk : Keeps (fun _ => False) W W') : TwoAt w0 W' B t L vR R := by
  obtain ⟨vt, v, h⟩ := h
  exact ⟨vt, v, h.dl.keep hk, h.row.of_keeps hk, h.kp.nt hk, h.fB, h.fv, h.fR, h.ap⟩
theorem TwoAt.start (h : MyDL w0 W B t L) : TwoAt w0 W B t L (.slice none 0 0) [] := by
  obtain ⟨vt, v, h1, h2, h3, h4⟩ := h
  exact ⟨vt, v, h1, World.ownsRow_nil _ _ _ _, h2, h3, h4, by simp [Value.ownBlock], by simp [Value.ownBlock]⟩
/-- Another row, made by a call that changes nothing. -/
theorem TwoAt.put {vR' : Value} {R' : List Ev} (h : TwoAt w0 W B t L vR R) (hr : W'.ownsRow 0 34 5 vR' R'.length (R'.flatMap Ev.cells)) (hf : Fresh W W' vR') : TwoAt w0 W' B t L vR' R' := by
  obtain ⟨vt, v, h⟩ := h
  have hs := h.kp.size
  refine ⟨vt, v, h.dl.keep hf.1, hr, h.kp.nt hf.1, h.fB, h.fv, fun g hg => by have := hf.2 g hg; omega, fun g hg e => ?_⟩
  have := own_lt h.dl.row hg
  have := hf.2 g e
  omega
/-- The row grows. -/
theorem TwoAt.app {vR' : Value} {R' : List Ev} (h : TwoAt w0 W B t L vR R) (hr : W'.ownsRow 0 34 5 vR' R'.length (R'.flatMap Ev.cells)) (hk : Keeps (fun k => vR.ownBlock = some k) W W') (hf : vR'.ownBlock = vR.ownBlock ∨ ∃ g, vR'.ownBlock = some g ∧ W.heap.size ≤ g) : TwoAt w0 W' B t L vR' R' := by
  obtain ⟨vt, v, h⟩ := h
  have hs := h.kp.size
  have hdl := h.dl
  have e1 : DL W' B t vt L v := ⟨box_old hdl.blk hk (fun e => ownsRow_ne h.row hdl.blk (by decide) e), hk.row hdl.trs (fun g hg e => rows_ne hdl.trs h.row (by decide) hg e), hk.row hdl.row (fun g hg e => h.ap g hg e)⟩
  refine ⟨vt, v, e1, hr, h.kp.trans (hk.mono fun i _ e => .inr (h.fR i e)), h.fB, h.fv, fun g hg => ?_, fun g hg e => ?_⟩
  · rcases hf with e | ⟨g', e, h'⟩
    · exact h.fR g (by rw [← e]; exact hg)
    · rw [e] at hg; simp only [Option.some.injEq] at hg; omega
  · rcases hf with e' | ⟨g', e', h'⟩
    · exact h.ap g hg (by rw [← e']; exact e)
    · rw [e'] at e; simp only [Option.some.injEq] at e
      have := own_lt hdl.row hg
      omega
end
theorem two_add (B : Nat) (t : Tm) (L : List Ev) (e : Ev) (vR : Value) (R : List Ev) (w0 w : World) (h : TwoAt w0 w B t L vR R) (hl : L.length ≤ 1000000) (ht : t.trs.length ≤ 1000000) {z : Int} {L' : List Ev} (hz : addErr t L e = z) (hL : addL t L e = L') : Calls Try.prog 13 #[(.pointer (some ⟨B, 0, none⟩)), e.agg] w fun x w' => x = .returned (.int .i64 z) ∧ TwoAt w0 w' B t L' vR R := by
  obtain ⟨vt, v, h⟩ := h
  refine (datAdd_any B t vt v L e w h.dl hl ht).mono ?_
  rintro x w' ⟨hx, v', hd, hk, hf⟩
  have hs := h.kp.size
  rw [hz] at hx
  rw [hL] at hd
  refine ⟨hx, vt, v', hd, hk.row h.row (fun g hg e => ?_), h.kp.trans (hk.mono fun i _ e => .inr ?_), h.fB, fun g hg => ?_, h.fR, fun g hg e => ?_⟩
  · rcases e with rfl | e
    · exact ownsRow_ne h.row h.dl.blk (by decide) hg
    · exact h.ap g e hg
  · rcases e with rfl | e
    · exact h.fB
    · exact h.fv i e
  · rcases hf with e | ⟨g', e, h'⟩
    · exact h.fv g (by rw [← e]; exact hg)
    · rw [e] at hg; simp only [Option.some.injEq] at hg; omega
  · rcases hf with e' | ⟨g', e', h'⟩
    · exact h.ap g (by rw [← e']; exact hg) e
    · rw [e'] at hg; simp only [Option.some.injEq] at hg
      have := own_lt h.row e
      omega
/-- A fork: another list, and the old one; what is added to the old one does not show. -/
theorem two_fork (B : Nat) (t : Tm) (L : List Ev) (vR : Value) (R : List Ev) (w0 w : World) (h : TwoAt w0 w B t L vR R) (hl : L.length ≤ 1000000) (ht : t.trs.length ≤ 1000000) : Calls Try.prog 19 #[(.pointer (some ⟨B, 0, none⟩))] w fun x w' => ∃ B', x = .returned (.pointer (some ⟨B', 0, none⟩)) ∧ Keeps (fun _ => False) w w' ∧
    ∀ e, Calls Try.prog 13 #[(.pointer (some ⟨B, 0, none⟩)), e.agg] w' fun x w'' => x = .returned (.int .i64 (addErr t L e)) ∧ TwoAt w0 w'' B' t L vR R := by
  obtain ⟨vt, v, h⟩ := h
  refine (datFork_any B t vt v L w h.dl hl).mono ?_
  rintro x w' ⟨B', v', hx, hd, hk, hB, hv⟩
  refine ⟨B', hx, hk, fun e => ?_⟩
  refine (datAdd_any B t vt v L e w' (h.dl.keep hk) hl ht).mono ?_
  rintro x w'' ⟨hx, v2, hd2, hk2, hf2⟩
  have hs := h.kp.size
  have hs1 := hk.size
  have hBl := lt_of_block h.dl.blk
  have hvl : ∀ g, v.ownBlock = some g → g < w.heap.size := fun g hg => own_lt h.dl.row hg
  refine ⟨hx, vt, v', ⟨box_old hd.blk hk2 (fun e => ?_), hd2.trs, hk2.row hd.row (fun g hg e => ?_)⟩, hk2.row (h.row.of_keeps hk) (fun g hg e => ?_), (h.kp.nt hk).trans (hk2.mono fun i _ e => .inr ?_), by omega, fun g hg => by have := hv g hg; omega, h.fR, fun g hg e => ?_⟩
  · rcases e with e | e
    · omega
    · have := hvl _ e; omega
  · have := hv g hg
    rcases e with e | e
    · omega
    · have := hvl _ e; omega
  · rcases e with rfl | e
    · exact ownsRow_ne h.row h.dl.blk (by decide) hg
    · exact h.ap g e hg
  · rcases e with rfl | e
    · exact h.fB
    · exact h.fv i e
  · have := hv g hg
    have := own_lt h.row e
    omega
end Go.Proofs.Ytelhlbplbkglkaa
