/- What comes in: a slice that was read as data reads as a list of cells; the frame of a law's proof. -/
import Derived.Test.YthokcmbgamanbaaDoorKit
import Derived.ProofKit
import Derived.OpenShut
import Derived.ShutString
import Derived.ChangeOld
import Derived.Below
import Derived.Deep.Slices
namespace Go.Proofs.YthokcmbgamanbaaDoor
open Go.ChangeShapes Go.WideShapes Go.ChangeAt Go.RowKit Go.Deep

theorem own : ownKnob Tryd.prog.godebug = none := by kernel_rfl
theorem laidOut : laidOutB Tryd.prog = true := by kernel_rfl

section
variable {H : Type} {enc : TypeId × Value → H} {w : World} {spare : Nat → Bool} {held : Bool}
/-- A list for a family: what each place reads as. -/
theorem list_of {α : Type} {p : Nat → α → Prop} : ∀ n : Nat, (∀ i, i < n → ∃ a, p i a) → ∃ L : List α, L.length = n ∧ ∀ i (a : α), L[i]? = some a → p i a
  | 0, _ => ⟨[], rfl, fun i a h => by simp at h⟩
  | n + 1, h => by
    obtain ⟨L, h1, h2⟩ := list_of n fun i hi => h i (by omega)
    obtain ⟨a, ha⟩ := h n (by omega)
    refine ⟨L ++ [a], by simp [h1], fun i b hb => ?_⟩
    rcases Nat.lt_or_ge i n with hi | hi
    · rw [List.getElem?_append_left (by omega)] at hb; exact h2 i b hb
    · rw [List.getElem?_append_right (by omega), h1] at hb
      obtain rfl : i = n := by
        rcases Nat.lt_or_ge n i with h' | h'
        · rw [List.getElem?_eq_none (by simp; omega)] at hb; simp at hb
        · omega
      simp at hb; subst hb; exact ha
theorem flat_at {α : Type} {f : α → List Value} {size : Nat} (hf : ∀ x, (f x).length = size) (hs : 0 < size) {L : List α} {j : Nat} {u : Value} (h : (L.flatMap f)[j]? = some u) : ∃ a, L[j / size]? = some a ∧ (f a)[j % size]? = some u := by
  have hj : j < L.length * size := by rw [← flat_length hf L]; exact lt_of_get h
  have hk : j / size < L.length := Nat.div_lt_of_lt_mul (by rw [Nat.mul_comm]; exact hj)
  refine ⟨L[j / size], List.getElem?_eq_getElem hk, ?_⟩
  have := flat_get hf (List.getElem?_eq_getElem hk) (Nat.mod_lt j hs)
  rw [← this, Nat.mul_comm, Nat.div_add_mod]; exact h
/-- A slice that came in, of elements that all read so: it reads as a list. -/
theorem open_reads {α : Type} {f : α → List Value} {size : Nat} (hf : ∀ x, (f x).length = size) (hs : 0 < size) {p : α → Prop} {t e : TypeId} {fuel : Nat} {ad : Option Addr} {len cap : Nat} {x : DataW H × List MemPlace}
    (ht : Tryd.prog.underlying t = some (.slice e)) (hc : Tryd.prog.cellsOf e = size)
    (hel : ∀ n cs d, DataW.trod enc Tryd.prog w 0 spare held n e cs = some d → ∃ a : α, cs = f a ∧ p a)
    (h : DataW.trod enc Tryd.prog w 0 spare held fuel t [.slice ad len cap] = some x) :
    ∃ L : List α, L.length = len ∧ Reads w size (.slice ad len cap) L.length (L.flatMap f) ∧ (∀ a ∈ L, p a) ∧ L.length ≤ maxLen := by
  rcases open_slice ht h with ⟨h0, _⟩ | ⟨a, len', cap', m, n, D, Pl, h0, _, hl, hm, hmm, _, hx⟩
  · simp only [List.cons.injEq, and_true, Value.slice.injEq] at h0
    obtain ⟨rfl, rfl, rfl⟩ := h0
    exact ⟨[], rfl, Reads.nil _ _, by simp, Nat.zero_le _⟩
  · simp only [List.cons.injEq, and_true, Value.slice.injEq] at h0
    obtain ⟨rfl, rfl, rfl⟩ := h0
    rw [hc] at hx
    have hlm : len ≤ m := by rw [hmm]; split <;> omega
    obtain ⟨L, hL, hLp⟩ := list_of (p := fun i (b : α) => w.cells? 0 (a.add (i * size)) size = some (f b) ∧ p b) len fun i hi => by
      obtain ⟨cs, h1, h2⟩ := hx i (by omega)
      obtain ⟨b, rfl, hb⟩ := hel _ _ _ h2
      exact ⟨b, h1, hb⟩
    refine ⟨L, hL, ⟨some a, cap, by rw [hL], by omega, flat_length hf L, by simp, fun j u hj => ?_⟩, fun b hb => ?_, by omega⟩
    · obtain ⟨b, hb, hu⟩ := flat_at hf hs hj
      obtain ⟨h1, _⟩ := hLp _ b hb
      obtain ⟨_, hlen, hcell⟩ := World.cells?_some h1
      have hc1 := hcell (j % size) (Nat.mod_lt j hs)
      rw [hu] at hc1
      have hadd : ((a.add (j / size * size)).add (j % size)) = a.add j := by
        have hj : j / size * size + j % size = j := by rw [Nat.mul_comm]; exact Nat.div_add_mod j size
        unfold Addr.add
        split <;> split <;> split <;> simp_all <;> omega
      rw [hadd] at hc1
      obtain ⟨ab, ao, asp⟩ := a
      rcases asp with _ | sp
      · exact ⟨ab, ao, rfl, by rw [← add_mk]; exact hc1⟩
      · -- an address with a spot reads no cell at its own place
        exfalso
        have hk : 0 < L.length := by
          rcases Nat.eq_zero_or_pos L.length with h' | h'
          · rw [List.eq_nil_of_length_eq_zero h'] at hj; simp at hj
          · exact h'
        obtain ⟨h1', _⟩ := hLp 0 _ (List.getElem?_eq_getElem hk)
        obtain ⟨_, hlen', hcell'⟩ := World.cells?_some h1'
        have hc0 := hcell' 0 hs
        rw [List.getElem?_eq_getElem (by omega)] at hc0
        unfold World.cell? at hc0
        simp only [Nat.zero_mul, Addr.add, if_true] at hc0
        split at hc0 <;> simp at hc0
    · obtain ⟨i, hi⟩ := List.getElem?_of_mem hb
      exact (hLp i b hi).2
theorem elem_int {k : IntKind} {e : TypeId} (he : Tryd.prog.underlying e = some (.int k)) (n : Nat) (cs : List Value) (d : DataW H × List MemPlace) (h : DataW.trod enc Tryd.prog w 0 spare held n e cs = some d) : ∃ a : Int, cs = [.int k a] ∧ (Lit.int k a).wf = true := by
  obtain ⟨a, h1, _, h2⟩ := DataW.trod_int he h; exact ⟨a, h1, h2⟩
theorem elem_bool {e : TypeId} (he : Tryd.prog.underlying e = some .bool) (n : Nat) (cs : List Value) (d : DataW H × List MemPlace) (h : DataW.trod enc Tryd.prog w 0 spare held n e cs = some d) : ∃ a : Bool, cs = [.bool a] ∧ True := by
  obtain ⟨a, h1, _⟩ := DataW.trod_bool he h; exact ⟨a, h1, trivial⟩
end
end Go.Proofs.YthokcmbgamanbaaDoor
