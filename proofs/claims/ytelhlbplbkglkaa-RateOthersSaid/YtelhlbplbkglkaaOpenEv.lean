/- What terms and events that came in read as. -/
import Derived.Test.YtelhlbplbkglkaaOpen
import Derived.Test.YtelhlbplbkglkaaTerms
namespace Go.Proofs.Ytelhlbplbkglkaa
open Go.ChangeShapes Go.WideShapes Go.RowKit Go.Deep
def Ev.wf (a : Ev) : Prop := (Lit.int .i64 a.kind).wf = true ∧ (Lit.int .i64 a.day).wf = true ∧ (Lit.int .i64 a.tranche).wf = true ∧ (Lit.int .i64 a.amount).wf = true ∧ (Lit.int .i64 a.ref).wf = true
set_option maxRecDepth 100000 in
theorem open_Ev {H : Type} {enc : TypeId × Value → H} {w : World} {spare : Nat → Bool} {held : Bool} (n : Nat) (cs : List Value) (d : DataW H × List MemPlace) (h : DataW.trod enc Try.prog w 0 spare held n 34 cs = some d) : ∃ a : Ev, cs = a.cells ∧ a.wf := by
  obtain ⟨xs, m, rfl, _, hlen, hxs, hf⟩ := DataW.trod_struct Try.underlying34 h
  have hl : cs.length = 5 := hlen.trans (by kernel_rfl)
  have hx : xs.length = 5 := hxs
  have g0 := hf 0 _ rfl
  rw [show Try.prog.cellsOf _ = 1 from by kernel_rfl, List.getElem?_eq_getElem (show 0 < xs.length by omega)] at g0
  have g1 := hf 1 _ rfl
  rw [show Try.prog.cellsOf _ = 1 from by kernel_rfl, List.getElem?_eq_getElem (show 1 < xs.length by omega)] at g1
  have g2 := hf 2 _ rfl
  rw [show Try.prog.cellsOf _ = 1 from by kernel_rfl, List.getElem?_eq_getElem (show 2 < xs.length by omega)] at g2
  have g3 := hf 3 _ rfl
  rw [show Try.prog.cellsOf _ = 1 from by kernel_rfl, List.getElem?_eq_getElem (show 3 < xs.length by omega)] at g3
  have g4 := hf 4 _ rfl
  rw [show Try.prog.cellsOf _ = 1 from by kernel_rfl, List.getElem?_eq_getElem (show 4 < xs.length by omega)] at g4
  match cs, hl with
  | [c0, c1, c2, c3, c4], _ =>
    obtain ⟨a0, e0, _, w0⟩ := DataW.trod_int Try.underlying3 g0
    simp at e0
    subst e0
    obtain ⟨a1, e1, _, w1⟩ := DataW.trod_int Try.underlying3 g1
    simp at e1
    subst e1
    obtain ⟨a2, e2, _, w2⟩ := DataW.trod_int Try.underlying3 g2
    simp at e2
    subst e2
    obtain ⟨a3, e3, _, w3⟩ := DataW.trod_int Try.underlying2 g3
    simp at e3
    subst e3
    obtain ⟨a4, e4, _, w4⟩ := DataW.trod_int Try.underlying3 g4
    simp at e4
    subst e4
    exact ⟨⟨a0, a1, a2, a3, a4⟩, rfl, w0, w1, w2, w3, w4⟩
def Tn.wf (a : Tn) : Prop := (Lit.int .i64 a.rate).wf = true ∧ True
set_option maxRecDepth 100000 in
theorem open_Tn {H : Type} {enc : TypeId × Value → H} {w : World} {spare : Nat → Bool} {held : Bool} (n : Nat) (cs : List Value) (d : DataW H × List MemPlace) (h : DataW.trod enc Try.prog w 0 spare held n 61 cs = some d) : ∃ a : Tn, cs = a.cells ∧ a.wf := by
  obtain ⟨xs, m, rfl, _, hlen, hxs, hf⟩ := DataW.trod_struct Try.underlying61 h
  have hl : cs.length = 2 := hlen.trans (by kernel_rfl)
  have hx : xs.length = 2 := hxs
  have g0 := hf 0 _ rfl
  rw [show Try.prog.cellsOf _ = 1 from by kernel_rfl, List.getElem?_eq_getElem (show 0 < xs.length by omega)] at g0
  have g1 := hf 1 _ rfl
  rw [show Try.prog.cellsOf _ = 1 from by kernel_rfl, List.getElem?_eq_getElem (show 1 < xs.length by omega)] at g1
  match cs, hl with
  | [c0, c1], _ =>
    obtain ⟨a0, e0, _, w0⟩ := DataW.trod_int Try.underlying2 g0
    simp at e0
    subst e0
    obtain ⟨a1, e1, _⟩ := DataW.trod_bool Try.underlying4 g1
    simp at e1
    subst e1
    exact ⟨⟨a0, a1⟩, rfl, w0, trivial⟩
def Tm.list (t : Tm) (ad : Option Addr) (cap : Nat) : List Value := [.int .i64 t.limit, .slice ad t.trs.length cap, .int .i64 t.cyc, .int .i64 t.due, .int .i64 t.minFixed, .int .i64 t.minPart, .int .i64 t.start]
def Tm.wf (t : Tm) : Prop := (Lit.int .i64 t.limit).wf = true ∧ (Lit.int .i64 t.start).wf = true
set_option maxRecDepth 100000 in
theorem open_Tm {H : Type} {enc : TypeId × Value → H} {w : World} {spare : Nat → Bool} {held : Bool} (n : Nat) (cs : List Value) (d : DataW H × List MemPlace) (h : DataW.trod enc Try.prog w 0 spare held n 27 cs = some d) :
    ∃ (s : Tm) (ad : Option Addr) (cap : Nat), cs = s.list ad cap ∧
      Reads w 2 (.slice ad s.trs.length cap) s.trs.length (s.trs.flatMap Tn.cells) ∧ s.trs.length ≤ maxLen := by
  obtain ⟨xs, m, rfl, _, hlen, hxs, hf⟩ := DataW.trod_struct Try.underlying27 h
  have hl : cs.length = 7 := hlen.trans (by kernel_rfl)
  have hx : xs.length = 7 := hxs
  have g0 := hf 0 _ rfl
  have g1 := hf 1 _ rfl
  have g2 := hf 2 _ rfl
  have g3 := hf 3 _ rfl
  have g4 := hf 4 _ rfl
  have g5 := hf 5 _ rfl
  have g6 := hf 6 _ rfl
  rw [show Try.prog.cellsOf _ = 1 from by kernel_rfl, List.getElem?_eq_getElem (show 0 < xs.length by omega)] at g0
  rw [show Try.prog.cellsOf _ = 1 from by kernel_rfl, List.getElem?_eq_getElem (show 1 < xs.length by omega)] at g1
  rw [show Try.prog.cellsOf _ = 1 from by kernel_rfl, List.getElem?_eq_getElem (show 2 < xs.length by omega)] at g2
  rw [show Try.prog.cellsOf _ = 1 from by kernel_rfl, List.getElem?_eq_getElem (show 3 < xs.length by omega)] at g3
  rw [show Try.prog.cellsOf _ = 1 from by kernel_rfl, List.getElem?_eq_getElem (show 4 < xs.length by omega)] at g4
  rw [show Try.prog.cellsOf _ = 1 from by kernel_rfl, List.getElem?_eq_getElem (show 5 < xs.length by omega)] at g5
  rw [show Try.prog.cellsOf _ = 1 from by kernel_rfl, List.getElem?_eq_getElem (show 6 < xs.length by omega)] at g6
  match cs, hl with
  | [c0, c1, c2, c3, c4, c5, c6], _ =>
    obtain ⟨a0, e0, _, w0⟩ := DataW.trod_int Try.underlying2 g0
    simp at e0
    subst e0
    obtain ⟨ad, len, cap, e4⟩ : ∃ ad len cap, c1 = .slice ad len cap := by
      rcases open_slice Try.underlying25 g1 with ⟨h0, _⟩ | ⟨a, len', cap', m, n, D, Pl, h0, _⟩
      · simp at h0; exact ⟨_, _, _, h0⟩
      · simp at h0; exact ⟨_, _, _, h0⟩
    subst e4
    obtain ⟨L, hLl, hr, _, hm⟩ := open_reads (f := Tn.cells) (size := 2) Tn.cells_length (by decide) Try.underlying25 (by kernel_rfl) (fun n cs d hd => open_Tn n cs d hd) g1
    subst hLl
    obtain ⟨a2, e2, _, w2⟩ := DataW.trod_int Try.underlying3 g2
    simp at e2
    subst e2
    obtain ⟨a3, e3, _, w3⟩ := DataW.trod_int Try.underlying3 g3
    simp at e3
    subst e3
    obtain ⟨a4, e4, _, w4⟩ := DataW.trod_int Try.underlying2 g4
    simp at e4
    subst e4
    obtain ⟨a5, e5, _, w5⟩ := DataW.trod_int Try.underlying2 g5
    simp at e5
    subst e5
    obtain ⟨a6, e6, _, w6⟩ := DataW.trod_int Try.underlying3 g6
    simp at e6
    subst e6
    exact ⟨⟨a0, a2, a3, a4, a5, a6, L⟩, ad, cap, rfl, hr, hm⟩
end Go.Proofs.Ytelhlbplbkglkaa
