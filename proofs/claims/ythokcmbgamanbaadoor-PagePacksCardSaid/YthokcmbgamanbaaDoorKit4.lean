/- Bytes, as lists of integers. -/
import Derived.Test.YthokcmbgamanbaaDoorKit3
namespace Go.Proofs.YthokcmbgamanbaaDoor
open Go.RowKit
section
variable {α : Type} {f : α → List Value} {size : Nat} (hf : ∀ x, (f x).length = size)
include hf
theorem flat_takek (L : List α) (k : Nat) : (L.flatMap f).take (k * size) = (L.take k).flatMap f := by
  induction L generalizing k with
  | nil => simp
  | cons a l ih =>
    cases k with
    | zero => simp
    | succ k =>
      rw [List.flatMap_cons, List.take_succ_cons, List.flatMap_cons, ← ih, Nat.succ_mul, Nat.add_comm, ← hf a, List.take_length_add_append]
theorem flat_dropk (L : List α) (k : Nat) : (L.flatMap f).drop (k * size) = (L.drop k).flatMap f := by
  induction L generalizing k with
  | nil => simp
  | cons a l ih =>
    cases k with
    | zero => simp
    | succ k =>
      rw [List.flatMap_cons, List.drop_succ_cons, ← ih, Nat.succ_mul, Nat.add_comm, ← hf a, List.drop_length_add_append]
theorem Reads.preL {w : World} {n c : Nat} {ad : Option Addr} {L : List α} (h : Reads w size (.slice ad n c) n (L.flatMap f)) (k : Nat) (hk : k ≤ n) : Reads w size (.slice ad k c) k ((L.take k).flatMap f) := by
  rw [← flat_takek hf]; exact h.pre k hk
theorem Reads.sufL {w : World} {n c g o : Nat} {L : List α} (h : Reads w size (.slice (some ⟨g, o, none⟩) n c) n (L.flatMap f)) (k : Nat) (hk : k ≤ n) : Reads w size (.slice (some ⟨g, o + k * size, none⟩) (n - k) (c - k)) (n - k) ((L.drop k).flatMap f) := by
  rw [← flat_dropk hf]; exact h.suf k hk
end
/-- A scope with a label that is jumped back to: the round first; what stands ahead of the label may lean on it. -/
theorem wp_scope_jumps2 {P : Program} {a : Act} {w : World} {Q : Exit → Act → World → Prop} {c rest : Code} (l : Nat) (J : Act → World → Prop) (M : Act → World → Nat) (hf : findLabel c l = some rest)
    (round : ∀ a w, J a w → rest.wp P (Exit.jump l (fun a' w' => J a' w' ∧ M a' w' < M a w) Q) a w)
    (first : (∀ a w, J a w → rest.wp P (Exit.jump l J Q) a w) → c.wp P (Exit.jump l J Q) a w) : (Code.scope c).wp P Q a w := by
  refine wp_scope_jumps l J M hf (first fun a w hJ => Code.wp_mono ?_ (round a w hJ)) round
  intro e a' w' h
  cases e with
  | goto k => exact ⟨h.1, h.2.1⟩
  | _ => exact h
theorem Reads.litAt (w : World) (cs : Array Value) (e : TypeId) (size n B : Nat) (hB : B = w.heap.size) (hs : cs.size = n * size) : Reads (w.alloc (.cells cs e)) size (.slice (some ⟨B, 0, none⟩) n n) n cs.toList := by subst hB; exact Reads.lit w cs e size n hs
def u8c (z : Int) : List Value := [.int .u8 z]
theorem u8c_length (z : Int) : (u8c z).length = 1 := rfl
theorem u8c_one (L : List Int) : ∀ u ∈ L.flatMap u8c, u.oneCell' = true := by
  intro u hu
  obtain ⟨d, _, hd⟩ := List.mem_flatMap.1 hu
  simp only [u8c, List.mem_cons, List.not_mem_nil, or_false] at hd
  subst hd; rfl
def i64c (z : Int) : List Value := [.int .i64 z]
theorem i64c_length (z : Int) : (i64c z).length = 1 := rfl
theorem i64c_one (L : List Int) : ∀ u ∈ L.flatMap i64c, u.oneCell' = true := by
  intro u hu
  obtain ⟨d, _, hd⟩ := List.mem_flatMap.1 hu
  simp only [i64c, List.mem_cons, List.not_mem_nil, or_false] at hd
  subst hd; rfl
/-- Bytes that may be: each from 0 to 255, and not too many. -/
def ByOk (B : List Int) : Prop := (∀ z ∈ B, 0 ≤ z ∧ z ≤ 255) ∧ B.length ≤ 1000000000000
/-- The byte at a place, and noughts behind them. -/
def bt (B : List Int) (k : Nat) : Int := B.getD k 0
theorem bt_bd {B : List Int} (h : ByOk B) (k : Nat) : 0 ≤ bt B k ∧ bt B k ≤ 255 := by
  unfold bt
  rw [List.getD_eq_getElem?_getD]
  rcases hx : B[k]? with _ | z
  · simp
  · exact h.1 z (List.mem_of_getElem? hx)
theorem bt_some {B : List Int} {k : Nat} {z : Int} (h : B[k]? = some z) : bt B k = z := by unfold bt; rw [List.getD_eq_getElem?_getD, h]; rfl
theorem bt_none {B : List Int} {k : Nat} (h : B.length ≤ k) : bt B k = 0 := by unfold bt; rw [List.getD_eq_getElem?_getD, List.getElem?_eq_none h]; rfl
theorem Reads.lt {w : World} {size : Nat} {x : Value} {m : Nat} {news : List Value} (h : Reads w size x m news) (hn : news ≠ []) : ∃ g, x.ownBlock = some g ∧ g < w.heap.size := by
  obtain ⟨ad, c, rfl, h1, h2, h3, h4⟩ := h
  rcases news with _ | ⟨u, news⟩
  · exact absurd rfl hn
  · obtain ⟨g, o, rfl, hc⟩ := h4 0 u rfl
    exact ⟨g, rfl, cell_lt hc⟩
/-- A slice that reads as a list, and lies ahead of the call's own memory, if it lies anywhere. -/
def ReadsIn (lo : Nat) (w : World) (size : Nat) (x : Value) (m : Nat) (news : List Value) : Prop := Reads w size x m news ∧ ∀ g, x.ownBlock = some g → news ≠ [] → g < lo
end Go.Proofs.YthokcmbgamanbaaDoor
