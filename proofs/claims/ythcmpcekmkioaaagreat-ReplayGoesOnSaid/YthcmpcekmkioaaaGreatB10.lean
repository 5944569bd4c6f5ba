/- What terms and events that came in read as. -/
import Derived.ProofKit
import Derived.OpenShut
import Derived.ShutString
import Derived.ChangeOld
import Derived.Below
import Derived.Deep.Slices
import Derived.Test.YthcmpcekmkioaaaGreatB9
namespace Go.Proofs.YthcmpcekmkioaaaGreat
open Go.ChangeShapes Go.WideShapes Go.ChangeAt Go.RowKit Go.Deep

theorem own : ownKnob Tryz.prog.godebug = none := by kernel_rfl
theorem laidOut : laidOutB Tryz.prog = true := by kernel_rfl

section
variable {H : Type} {enc : TypeId × Value → H} {w : World} {spare : Nat → Bool} {held : Bool}
theorem list_of {α : Type} {p : Nat → α → Prop} : ∀ n : Nat, (∀ i, i < n → ∃ a, p i a) → ∃ L : List α, L.length = n ∧ ∀ i (a : α), L[i]? = some a → p i a
 | 0, _ => ⟨[], rfl, fun i a h => by simp at h⟩
 | n + 1, h => by
  obtain ⟨L, h1, h2⟩ := list_of n fun i hi => h i (by omega)
  obtain ⟨a, ha⟩ := h n (by omega)
  refine ⟨L ++ [a], by simp [h1], fun i b hb => ?_⟩
  rcases Nat.lt_or_ge i n with hi | hi
  ·rw [List.getElem?_append_left (by omega)] at hb; exact h2 i b hb
  ·rw [List.getElem?_append_right (by omega), h1] at hb
   obtain rfl : i = n := by
    rcases Nat.lt_or_ge n i with h' | h'
    ·rw [List.getElem?_eq_none (by simp; omega)] at hb; simp at hb
    ·omega
   simp at hb; subst hb; exact ha
theorem flat_at {α : Type} {f : α → List Value} {size : Nat} (hf : ∀ x, (f x).length = size) (hs : 0 < size) {L : List α} {j : Nat} {u : Value} (h : (L.flatMap f)[j]? = some u) : ∃ a, L[j / size]? = some a ∧ (f a)[j % size]? = some u := by
 have hj : j < L.length * size := by rw [← flat_length hf L]; exact lt_of_get h
 have hk : j / size < L.length := Nat.div_lt_of_lt_mul (by rw [Nat.mul_comm]; exact hj)
 refine ⟨L[j / size], List.getElem?_eq_getElem hk, ?_⟩
 have := flat_get hf (List.getElem?_eq_getElem hk) (Nat.mod_lt j hs)
 rw [← this, Nat.mul_comm, Nat.div_add_mod]; exact h
theorem open_reads {α : Type} {f : α → List Value} {size : Nat} (hf : ∀ x, (f x).length = size) (hs : 0 < size) {p : α → Prop} {t e : TypeId} {fuel : Nat} {ad : Option Addr} {len cap : Nat} {x : DataW H × List MemPlace}
  (ht : Tryz.prog.underlying t = some (.slice e)) (hc : Tryz.prog.cellsOf e = size)
  (hel : ∀ n cs d, DataW.trod enc Tryz.prog w 0 spare held n e cs = some d → ∃ a : α, cs = f a ∧ p a)
  (h : DataW.trod enc Tryz.prog w 0 spare held fuel t [.slice ad len cap] = some x) :
  ∃ L : List α, L.length = len ∧ Reads w size (.slice ad len cap) L.length (L.flatMap f) ∧ (∀ a ∈ L, p a) ∧ L.length ≤ maxLen := by
 rcases open_slice ht h with ⟨h0, _⟩ | ⟨a, len', cap', m, n, D, Pl, h0, _, hl, hm, hmm, _, hx⟩
 ·simp only [List.cons.injEq, and_true, Value.slice.injEq] at h0
  obtain ⟨rfl, rfl, rfl⟩ := h0
  exact ⟨[], rfl, Reads.nil _ _, by simp, Nat.zero_le _⟩
 ·simp only [List.cons.injEq, and_true, Value.slice.injEq] at h0
  obtain ⟨rfl, rfl, rfl⟩ := h0
  rw [hc] at hx
  have hlm : len ≤ m := by rw [hmm]; split <;> omega
  obtain ⟨L, hL, hLp⟩ := list_of (p := fun i (b : α) => w.cells? 0 (a.add (i * size)) size = some (f b) ∧ p b) len fun i hi => by
   obtain ⟨cs, h1, h2⟩ := hx i (by omega)
   obtain ⟨b, rfl, hb⟩ := hel _ _ _ h2
   exact ⟨b, h1, hb⟩
  refine ⟨L, hL, ⟨some a, cap, by rw [hL], by omega, flat_length hf L, by simp, fun j u hj => ?_⟩, fun b hb => ?_, by omega⟩
  ·obtain ⟨b, hb, hu⟩ := flat_at hf hs hj
   obtain ⟨h1, _⟩ := hLp _ b hb
   obtain ⟨_, hlen, hcell⟩ := World.cells?_some h1
   have hc1 := hcell (j % size) (Nat.mod_lt j hs)
   rw [hu] at hc1
   have hadd : ((a.add (j / size * size)).add (j % size)) = a.add j := by
    have hj : j / size * size + j % size = j := by rw [Nat.mul_comm]; exact Nat.div_add_mod j size
    unfold Addr.add
    split <;> split <;> split <;> simp_all <;> omega
   rw [hadd] at hc1
   obtain ⟨ab, ao, asp⟩ := a
   rcases asp with _ | sp
   ·exact ⟨ab, ao, rfl, by rw [← add_mk]; exact hc1⟩
   ·-- an address with a spot reads no cell at its own place
    exfalso
    have hk : 0 < L.length := by
     rcases Nat.eq_zero_or_pos L.length with h' | h'
     ·rw [List.eq_nil_of_length_eq_zero h'] at hj; simp at hj
     ·exact h'
    obtain ⟨h1', _⟩ := hLp 0 _ (List.getElem?_eq_getElem hk)
    obtain ⟨_, hlen', hcell'⟩ := World.cells?_some h1'
    have hc0 := hcell' 0 hs
    rw [List.getElem?_eq_getElem (by omega)] at hc0
    unfold World.cell? at hc0
    simp only [Nat.zero_mul, Addr.add, if_true] at hc0
    split at hc0 <;> simp at hc0
  ·obtain ⟨i, hi⟩ := List.getElem?_of_mem hb
   exact (hLp i b hi).2
theorem elem_int {k : IntKind} {e : TypeId} (he : Tryz.prog.underlying e = some (.int k)) (n : Nat) (cs : List Value) (d : DataW H × List MemPlace) (h : DataW.trod enc Tryz.prog w 0 spare held n e cs = some d) : ∃ a : Int, cs = [.int k a] ∧ (Lit.int k a).wf = true := by
 obtain ⟨a, h1, _, h2⟩ := DataW.trod_int he h; exact ⟨a, h1, h2⟩
theorem elem_bool {e : TypeId} (he : Tryz.prog.underlying e = some .bool) (n : Nat) (cs : List Value) (d : DataW H × List MemPlace) (h : DataW.trod enc Tryz.prog w 0 spare held n e cs = some d) : ∃ a : Bool, cs = [.bool a] ∧ True := by
 obtain ⟨a, h1, _⟩ := DataW.trod_bool he h; exact ⟨a, h1, trivial⟩
end
end Go.Proofs.YthcmpcekmkioaaaGreat
namespace Go.Proofs.YthcmpcekmkioaaaGreat
open Go.ChangeShapes Go.WideShapes Go.RowKit Go.Deep
def Ev.wf (a : Ev) : Prop := (Lit.int .i64 a.kind).wf = true ∧ (Lit.int .i64 a.day).wf = true ∧ (Lit.int .i64 a.tranche).wf = true ∧ (Lit.int .i64 a.amount).wf = true ∧ (Lit.int .i64 a.ref).wf = true
set_option maxRecDepth 100000 in
theorem open_Ev {H : Type} {enc : TypeId × Value → H} {w : World} {spare : Nat → Bool} {held : Bool} (n : Nat) (cs : List Value) (d : DataW H × List MemPlace) (h : DataW.trod enc Tryz.prog w 0 spare held n 26 cs = some d) : ∃ a : Ev, cs = a.cells ∧ a.wf := by
 obtain ⟨xs, m, rfl, _, hlen, hxs, hf⟩ := DataW.trod_struct Tryz.underlying26 h
 have hl : cs.length = 5 := hlen.trans (by kernel_rfl)
 have hx : xs.length = 5 := hxs
 have g0 := hf 0 _ rfl
 rw [show Tryz.prog.cellsOf _ = 1 from by kernel_rfl, List.getElem?_eq_getElem (show 0 < xs.length by omega)] at g0
 have g1 := hf 1 _ rfl
 rw [show Tryz.prog.cellsOf _ = 1 from by kernel_rfl, List.getElem?_eq_getElem (show 1 < xs.length by omega)] at g1
 have g2 := hf 2 _ rfl
 rw [show Tryz.prog.cellsOf _ = 1 from by kernel_rfl, List.getElem?_eq_getElem (show 2 < xs.length by omega)] at g2
 have g3 := hf 3 _ rfl
 rw [show Tryz.prog.cellsOf _ = 1 from by kernel_rfl, List.getElem?_eq_getElem (show 3 < xs.length by omega)] at g3
 have g4 := hf 4 _ rfl
 rw [show Tryz.prog.cellsOf _ = 1 from by kernel_rfl, List.getElem?_eq_getElem (show 4 < xs.length by omega)] at g4
 match cs, hl with
 | [c0, c1, c2, c3, c4], _ =>
  obtain ⟨a0, e0, _, w0⟩ := DataW.trod_int Tryz.underlying3 g0
  simp at e0
  subst e0
  obtain ⟨a1, e1, _, w1⟩ := DataW.trod_int Tryz.underlying3 g1
  simp at e1
  subst e1
  obtain ⟨a2, e2, _, w2⟩ := DataW.trod_int Tryz.underlying3 g2
  simp at e2
  subst e2
  obtain ⟨a3, e3, _, w3⟩ := DataW.trod_int Tryz.underlying2 g3
  simp at e3
  subst e3
  obtain ⟨a4, e4, _, w4⟩ := DataW.trod_int Tryz.underlying3 g4
  simp at e4
  subst e4
  exact ⟨⟨a0, a1, a2, a3, a4⟩, rfl, w0, w1, w2, w3, w4⟩
def Tn.wf (a : Tn) : Prop := (Lit.int .i64 a.rate).wf = true ∧ True
set_option maxRecDepth 100000 in
theorem open_Tn {H : Type} {enc : TypeId × Value → H} {w : World} {spare : Nat → Bool} {held : Bool} (n : Nat) (cs : List Value) (d : DataW H × List MemPlace) (h : DataW.trod enc Tryz.prog w 0 spare held n 57 cs = some d) : ∃ a : Tn, cs = a.cells ∧ a.wf := by
 obtain ⟨xs, m, rfl, _, hlen, hxs, hf⟩ := DataW.trod_struct Tryz.underlying57 h
 have hl : cs.length = 2 := hlen.trans (by kernel_rfl)
 have hx : xs.length = 2 := hxs
 have g0 := hf 0 _ rfl
 rw [show Tryz.prog.cellsOf _ = 1 from by kernel_rfl, List.getElem?_eq_getElem (show 0 < xs.length by omega)] at g0
 have g1 := hf 1 _ rfl
 rw [show Tryz.prog.cellsOf _ = 1 from by kernel_rfl, List.getElem?_eq_getElem (show 1 < xs.length by omega)] at g1
 match cs, hl with
 | [c0, c1], _ =>
  obtain ⟨a0, e0, _, w0⟩ := DataW.trod_int Tryz.underlying2 g0
  simp at e0
  subst e0
  obtain ⟨a1, e1, _⟩ := DataW.trod_bool Tryz.underlying4 g1
  simp at e1
  subst e1
  exact ⟨⟨a0, a1⟩, rfl, w0, trivial⟩
def Tm.list (t : Tm) (ad : Option Addr) (cap : Nat) : List Value := [.int .i64 t.limit, .slice ad t.trs.length cap, .int .i64 t.cyc, .int .i64 t.due, .int .i64 t.minFixed, .int .i64 t.minPart, .int .i64 t.start]
def Tm.wf (t : Tm) : Prop := (Lit.int .i64 t.limit).wf = true ∧ (Lit.int .i64 t.start).wf = true
set_option maxRecDepth 100000 in
theorem open_Tm {H : Type} {enc : TypeId × Value → H} {w : World} {spare : Nat → Bool} {held : Bool} (n : Nat) (cs : List Value) (d : DataW H × List MemPlace) (h : DataW.trod enc Tryz.prog w 0 spare held n 38 cs = some d) :
  ∃ (s : Tm) (ad : Option Addr) (cap : Nat), cs = s.list ad cap ∧
   Reads w 2 (.slice ad s.trs.length cap) s.trs.length (s.trs.flatMap Tn.cells) ∧ s.trs.length ≤ maxLen := by
 obtain ⟨xs, m, rfl, _, hlen, hxs, hf⟩ := DataW.trod_struct Tryz.underlying38 h
 have hl : cs.length = 7 := hlen.trans (by kernel_rfl)
 have hx : xs.length = 7 := hxs
 have g0 := hf 0 _ rfl
 have g1 := hf 1 _ rfl
 have g2 := hf 2 _ rfl
 have g3 := hf 3 _ rfl
 have g4 := hf 4 _ rfl
 have g5 := hf 5 _ rfl
 have g6 := hf 6 _ rfl
 rw [show Tryz.prog.cellsOf _ = 1 from by kernel_rfl, List.getElem?_eq_getElem (show 0 < xs.length by omega)] at g0
 rw [show Tryz.prog.cellsOf _ = 1 from by kernel_rfl, List.getElem?_eq_getElem (show 1 < xs.length by omega)] at g1
 rw [show Tryz.prog.cellsOf _ = 1 from by kernel_rfl, List.getElem?_eq_getElem (show 2 < xs.length by omega)] at g2
 rw [show Tryz.prog.cellsOf _ = 1 from by kernel_rfl, List.getElem?_eq_getElem (show 3 < xs.length by omega)] at g3
 rw [show Tryz.prog.cellsOf _ = 1 from by kernel_rfl, List.getElem?_eq_getElem (show 4 < xs.length by omega)] at g4
 rw [show Tryz.prog.cellsOf _ = 1 from by kernel_rfl, List.getElem?_eq_getElem (show 5 < xs.length by omega)] at g5
 rw [show Tryz.prog.cellsOf _ = 1 from by kernel_rfl, List.getElem?_eq_getElem (show 6 < xs.length by omega)] at g6
 match cs, hl with
 | [c0, c1, c2, c3, c4, c5, c6], _ =>
  obtain ⟨a0, e0, _, w0⟩ := DataW.trod_int Tryz.underlying2 g0
  simp at e0
  subst e0
  obtain ⟨ad, len, cap, e4⟩ : ∃ ad len cap, c1 = .slice ad len cap := by
   rcases open_slice Tryz.underlying36 g1 with ⟨h0, _⟩ | ⟨a, len', cap', m, n, D, Pl, h0, _⟩
   ·simp at h0; exact ⟨_, _, _, h0⟩
   ·simp at h0; exact ⟨_, _, _, h0⟩
  subst e4
  obtain ⟨L, hLl, hr, _, hm⟩ := open_reads (f := Tn.cells) (size := 2) Tn.cells_length (by decide) Tryz.underlying36 (by kernel_rfl) (fun n cs d hd => open_Tn n cs d hd) g1
  subst hLl
  obtain ⟨a2, e2, _, w2⟩ := DataW.trod_int Tryz.underlying3 g2
  simp at e2
  subst e2
  obtain ⟨a3, e3, _, w3⟩ := DataW.trod_int Tryz.underlying3 g3
  simp at e3
  subst e3
  obtain ⟨a4, e4, _, w4⟩ := DataW.trod_int Tryz.underlying2 g4
  simp at e4
  subst e4
  obtain ⟨a5, e5, _, w5⟩ := DataW.trod_int Tryz.underlying2 g5
  simp at e5
  subst e5
  obtain ⟨a6, e6, _, w6⟩ := DataW.trod_int Tryz.underlying3 g6
  simp at e6
  subst e6
  exact ⟨⟨a0, a2, a3, a4, a5, a6, L⟩, ad, cap, rfl, hr, hm⟩
end Go.Proofs.YthcmpcekmkioaaaGreat
