/- What a statement that came in reads as. -/
import Derived.Test.YthokcmbgamanbaaDoorOpen
import Derived.Test.YthokcmbgamanbaaDoorPage
namespace Go.Proofs.YthokcmbgamanbaaDoor
open Go.ChangeShapes Go.WideShapes Go.RowKit Go.Deep
/-- Spn, as the program has it. -/
structure Spn where
  lo : Int
  hi : Int
deriving DecidableEq, Inhabited
def Spn.cells (d : Spn) : List Value := [.int .i64 d.lo, .int .i64 d.hi]
theorem Spn.cells_length (d : Spn) : d.cells.length = 2 := rfl
theorem Spn.one (L : List Spn) : ∀ u ∈ L.flatMap Spn.cells, u.oneCell' = true := by
  intro u hu
  obtain ⟨d, _, hd⟩ := List.mem_flatMap.1 hu
  simp only [Spn.cells, List.mem_cons, List.not_mem_nil, or_false] at hd
  rcases hd with rfl | rfl <;> rfl
def Spn.wf (a : Spn) : Prop := (Lit.int .i64 a.lo).wf = true ∧ (Lit.int .i64 a.hi).wf = true
set_option maxRecDepth 100000 in
theorem open_Spn {H : Type} {enc : TypeId × Value → H} {w : World} {spare : Nat → Bool} {held : Bool} (n : Nat) (cs : List Value) (d : DataW H × List MemPlace) (h : DataW.trod enc Tryd.prog w 0 spare held n 23 cs = some d) : ∃ a : Spn, cs = a.cells ∧ a.wf := by
  obtain ⟨xs, m, rfl, _, hlen, hxs, hf⟩ := DataW.trod_struct Tryd.underlying23 h
  have hl : cs.length = 2 := hlen.trans (by kernel_rfl)
  have hx : xs.length = 2 := hxs
  have g0 := hf 0 _ rfl
  rw [show Tryd.prog.cellsOf _ = 1 from by kernel_rfl, List.getElem?_eq_getElem (show 0 < xs.length by omega)] at g0
  have g1 := hf 1 _ rfl
  rw [show Tryd.prog.cellsOf _ = 1 from by kernel_rfl, List.getElem?_eq_getElem (show 1 < xs.length by omega)] at g1
  match cs, hl with
  | [c0, c1], _ =>
    obtain ⟨a0, e0, _, w0⟩ := DataW.trod_int Tryd.underlying3 g0
    simp at e0
    subst e0
    obtain ⟨a1, e1, _, w1⟩ := DataW.trod_int Tryd.underlying3 g1
    simp at e1
    subst e1
    exact ⟨⟨a0, a1⟩, rfl, w0, w1⟩
def Ln.wf (a : Ln) : Prop := (Lit.int .i64 a.balance).wf = true ∧ (Lit.int .i64 a.interest).wf = true ∧ (Lit.int .i64 a.rate).wf = true
set_option maxRecDepth 100000 in
theorem open_Ln {H : Type} {enc : TypeId × Value → H} {w : World} {spare : Nat → Bool} {held : Bool} (n : Nat) (cs : List Value) (d : DataW H × List MemPlace) (h : DataW.trod enc Tryd.prog w 0 spare held n 30 cs = some d) : ∃ a : Ln, cs = a.cells ∧ a.wf := by
  obtain ⟨xs, m, rfl, _, hlen, hxs, hf⟩ := DataW.trod_struct Tryd.underlying30 h
  have hl : cs.length = 3 := hlen.trans (by kernel_rfl)
  have hx : xs.length = 3 := hxs
  have g0 := hf 0 _ rfl
  rw [show Tryd.prog.cellsOf _ = 1 from by kernel_rfl, List.getElem?_eq_getElem (show 0 < xs.length by omega)] at g0
  have g1 := hf 1 _ rfl
  rw [show Tryd.prog.cellsOf _ = 1 from by kernel_rfl, List.getElem?_eq_getElem (show 1 < xs.length by omega)] at g1
  have g2 := hf 2 _ rfl
  rw [show Tryd.prog.cellsOf _ = 1 from by kernel_rfl, List.getElem?_eq_getElem (show 2 < xs.length by omega)] at g2
  match cs, hl with
  | [c0, c1, c2], _ =>
    obtain ⟨a0, e0, _, w0⟩ := DataW.trod_int Tryd.underlying2 g0
    simp at e0
    subst e0
    obtain ⟨a1, e1, _, w1⟩ := DataW.trod_int Tryd.underlying2 g1
    simp at e1
    subst e1
    obtain ⟨a2, e2, _, w2⟩ := DataW.trod_int Tryd.underlying2 g2
    simp at e2
    subst e2
    exact ⟨⟨a0, a1, a2⟩, rfl, w0, w1, w2⟩
def Stm.list (s : Stm) (ad : Option Addr) (cap : Nat) : List Value := [.int .i64 s.cycle, .int .i64 s.fr, .int .i64 s.te, .int .i64 s.due, .slice ad s.lines.length cap, .int .i64 s.total, .int .i64 s.credit, .int .i64 s.min, .bool s.grace]
set_option maxRecDepth 100000 in
theorem open_Stm {H : Type} {enc : TypeId × Value → H} {w : World} {spare : Nat → Bool} {held : Bool} (n : Nat) (cs : List Value) (d : DataW H × List MemPlace) (h : DataW.trod enc Tryd.prog w 0 spare held n 26 cs = some d) :
    ∃ (s : Stm) (ad : Option Addr) (cap : Nat), cs = s.list ad cap ∧
      Reads w 3 (.slice ad s.lines.length cap) s.lines.length (s.lines.flatMap Ln.cells) ∧ s.lines.length ≤ maxLen := by
  obtain ⟨xs, m, rfl, _, hlen, hxs, hf⟩ := DataW.trod_struct Tryd.underlying26 h
  have hl : cs.length = 9 := hlen.trans (by kernel_rfl)
  have hx : xs.length = 8 := hxs
  have g0 := hf 0 _ rfl
  have g1 := hf 1 _ rfl
  have g2 := hf 2 _ rfl
  have g3 := hf 3 _ rfl
  have g4 := hf 4 _ rfl
  have g5 := hf 5 _ rfl
  have g6 := hf 6 _ rfl
  have g7 := hf 7 _ rfl
  rw [show Tryd.prog.cellsOf _ = 1 from by kernel_rfl, List.getElem?_eq_getElem (show 0 < xs.length by omega)] at g0
  rw [show Tryd.prog.cellsOf _ = 2 from by kernel_rfl, List.getElem?_eq_getElem (show 1 < xs.length by omega)] at g1
  rw [show Tryd.prog.cellsOf _ = 1 from by kernel_rfl, List.getElem?_eq_getElem (show 2 < xs.length by omega)] at g2
  rw [show Tryd.prog.cellsOf _ = 1 from by kernel_rfl, List.getElem?_eq_getElem (show 3 < xs.length by omega)] at g3
  rw [show Tryd.prog.cellsOf _ = 1 from by kernel_rfl, List.getElem?_eq_getElem (show 4 < xs.length by omega)] at g4
  rw [show Tryd.prog.cellsOf _ = 1 from by kernel_rfl, List.getElem?_eq_getElem (show 5 < xs.length by omega)] at g5
  rw [show Tryd.prog.cellsOf _ = 1 from by kernel_rfl, List.getElem?_eq_getElem (show 6 < xs.length by omega)] at g6
  rw [show Tryd.prog.cellsOf _ = 1 from by kernel_rfl, List.getElem?_eq_getElem (show 7 < xs.length by omega)] at g7
  match cs, hl with
  | [c0, c1, c2, c3, c4, c5, c6, c7, c8], _ =>
    obtain ⟨a0, e0, _, w0⟩ := DataW.trod_int Tryd.underlying3 g0
    simp at e0
    subst e0
    obtain ⟨⟨a1, a2⟩, e1, w1⟩ := open_Spn _ _ _ g1
    simp [Spn.cells] at e1
    obtain ⟨rfl, rfl⟩ := e1
    obtain ⟨a3, e3, _, w3⟩ := DataW.trod_int Tryd.underlying3 g2
    simp at e3
    subst e3
    obtain ⟨ad, len, cap, e4⟩ : ∃ ad len cap, c4 = .slice ad len cap := by
      rcases open_slice Tryd.underlying24 g3 with ⟨h0, _⟩ | ⟨a, len', cap', m, n, D, Pl, h0, _⟩
      · simp at h0; exact ⟨_, _, _, h0⟩
      · simp at h0; exact ⟨_, _, _, h0⟩
    subst e4
    obtain ⟨L, hLl, hr, _, hm⟩ := open_reads (f := Ln.cells) (size := 3) Ln.cells_length (by decide) Tryd.underlying24 (by kernel_rfl) (fun n cs d hd => open_Ln n cs d hd) g3
    subst hLl
    obtain ⟨a5, e5, _, w5⟩ := DataW.trod_int Tryd.underlying2 g4
    simp at e5
    subst e5
    obtain ⟨a6, e6, _, w6⟩ := DataW.trod_int Tryd.underlying2 g5
    simp at e6
    subst e6
    obtain ⟨a7, e7, _, w7⟩ := DataW.trod_int Tryd.underlying2 g6
    simp at e7
    subst e7
    obtain ⟨a8, e8, _⟩ := DataW.trod_bool Tryd.underlying4 g7
    simp at e8
    subst e8
    exact ⟨⟨a0, a1, a2, a3, a5, a6, a7, a8, L⟩, ad, cap, rfl, hr, hm⟩
end Go.Proofs.YthokcmbgamanbaaDoor
