/- Stable sorting, in plain lists: an event put in its place; a row sorted by putting one by one. -/
import Derived.Test.YtelhlbplbkglkaaSrtPl
namespace Go.Proofs.Ytelhlbplbkglkaa
open Go.RowKit
/-- How many events there are up to a day, from behind. -/
def placeOf (day : Int) : List Ev → Nat → Nat
  | _, 0 => 0
  | L, n + 1 => match L[n]? with | some e => if day < e.day then placeOf day L n else n + 1 | none => n + 1
/-- A new event in its place. -/
def putL (L : List Ev) (e : Ev) : List Ev := L.take (placeOf e.day L L.length) ++ [e] ++ L.drop (placeOf e.day L L.length)
theorem placeOf_le (day : Int) (L : List Ev) : ∀ n, placeOf day L n ≤ n
  | 0 => by cases L <;> exact Nat.le_refl _
  | n + 1 => by
    unfold placeOf
    split
    · split
      · exact Nat.le_succ_of_le (placeOf_le day L n)
      · exact Nat.le_refl _
    · exact Nat.le_refl _
theorem putL_length (L : List Ev) (e : Ev) : (putL L e).length = L.length + 1 := by
  have := placeOf_le e.day L L.length
  simp only [putL, List.length_append, List.length_take, List.length_drop, List.length_cons, List.length_nil]; omega
theorem placeOf_spec (day : Int) (L : List Ev) : ∀ n, n ≤ L.length → (∀ t, placeOf day L n ≤ t → t < n → day < dy L t) ∧ (∀ p, placeOf day L n = p + 1 → dy L p ≤ day)
  | 0, _ => ⟨fun t _ h => by omega, fun p h => by simp [placeOf] at h⟩
  | n + 1, hn => by
    have ih := placeOf_spec day L n (by omega)
    have hx : L[n]? = some L[n] := List.getElem?_eq_getElem (by omega)
    unfold placeOf
    rw [hx]
    simp only
    split
    · rename_i h
      refine ⟨fun t h1 h2 => ?_, ih.2⟩
      by_cases he : t = n
      · subst he; rw [dy_of hx]; exact h
      · exact ih.1 t h1 (by omega)
    · rename_i h
      refine ⟨fun t h1 h2 => by omega, fun p h1 => ?_⟩
      obtain rfl : p = n := by omega
      rw [dy_of hx]; omega
def Sorted (L : List Ev) : Prop := L.Pairwise (fun x y => x.day ≤ y.day)
theorem Sorted.upto {L : List Ev} (h : Sorted L) : Upto L 0 L.length := fun s t _ h1 h2 => by
  rw [dy_of (List.getElem?_eq_getElem (show s < L.length by omega)), dy_of (List.getElem?_eq_getElem h2)]
  exact List.pairwise_iff_getElem.1 h s t (by omega) h2 h1
theorem putL_parts {L : List Ev} (hs : Sorted L) (e : Ev) : (∀ x ∈ L.take (placeOf e.day L L.length), x.day ≤ e.day) ∧ (∀ x ∈ L.drop (placeOf e.day L L.length), e.day < x.day) := by
  obtain ⟨h1, h2⟩ := placeOf_spec e.day L L.length (Nat.le_refl _)
  have hle := placeOf_le e.day L L.length
  refine ⟨fun x hx => ?_, fun x hx => ?_⟩
  · obtain ⟨i, hi, he⟩ := List.getElem_of_mem hx
    rw [List.length_take] at hi
    obtain ⟨p, hp⟩ : ∃ p, placeOf e.day L L.length = p + 1 := ⟨placeOf e.day L L.length - 1, by omega⟩
    have h3 := h2 p hp
    have h4 := hs.upto.le (s := i) (t := p) (Nat.zero_le _) (by omega) (by omega)
    rw [List.getElem_take] at he
    rw [dy_of (List.getElem?_eq_getElem (show i < L.length by omega)), he] at h4
    omega
  · obtain ⟨i, hi, he⟩ := List.getElem_of_mem hx
    rw [List.length_drop] at hi
    rw [List.getElem_drop] at he
    have h3 := h1 (placeOf e.day L L.length + i) (by omega) (by omega)
    rwa [dy_of (List.getElem?_eq_getElem (show placeOf e.day L L.length + i < L.length by omega)), he] at h3
theorem putL_sorted {L : List Ev} (hs : Sorted L) (e : Ev) : Sorted (putL L e) := by
  obtain ⟨h1, h2⟩ := putL_parts hs e
  unfold putL Sorted
  rw [List.append_assoc, List.pairwise_append]
  refine ⟨hs.sublist (List.take_sublist _ _), ?_, fun x hx y hy => ?_⟩
  · show List.Pairwise _ (e :: _)
    rw [List.pairwise_cons]
    exact ⟨fun x hx => by have := h2 x hx; omega, hs.sublist (List.drop_sublist _ _)⟩
  · have := h1 x hx
    rcases List.mem_cons.1 (show y ∈ e :: _ from hy) with rfl | hy
    · exact this
    · have := h2 y hy; omega
theorem putL_alike {L : List Ev} (hs : Sorted L) (e : Ev) : Alike (putL L e) (L ++ [e]) := by
  obtain ⟨h1, h2⟩ := putL_parts hs e
  have : L ++ [e] = L.take (placeOf e.day L L.length) ++ (L.drop (placeOf e.day L L.length) ++ [e]) := by rw [← List.append_assoc, List.take_append_drop]
  rw [this]
  unfold putL
  rw [List.append_assoc]
  exact Alike.app (Alike.refl _) (Alike.turn fun u hu v hv => by simp only [List.mem_singleton] at hv; subst hv; exact h2 u hu)
/-- A row, sorted: each put in its place, one by one. -/
def sortL (L : List Ev) : List Ev := L.foldl putL []
theorem sortL_fold : ∀ (L A B : List Ev), Sorted A → Alike A B → Sorted (L.foldl putL A) ∧ Alike (L.foldl putL A) (B ++ L)
  | [], A, B, h1, h2 => by simpa using ⟨h1, h2⟩
  | e :: L, A, B, h1, h2 => by
    have := sortL_fold L (putL A e) (B ++ [e]) (putL_sorted h1 e) ((putL_alike h1 e).trans (h2.app (Alike.refl _)))
    simpa using this
theorem sortL_spec (L : List Ev) : Sorted (sortL L) ∧ Alike (sortL L) L := by
  exact sortL_fold L [] [] List.Pairwise.nil (Alike.refl _)
theorem sortL_one {L X : List Ev} (h1 : Sorted X) (h2 : Alike X L) : X = sortL L := (h2.trans (sortL_spec L).2.symm).one h1 (sortL_spec L).1
theorem sortL_snoc (L : List Ev) (e : Ev) : sortL (L ++ [e]) = putL (sortL L) e := by unfold sortL; rw [List.foldl_append]; rfl
theorem sortL_length (L : List Ev) : (sortL L).length = L.length := by
  have : ∀ (L A : List Ev), (L.foldl putL A).length = A.length + L.length := by
    intro L
    induction L with
    | nil => intro A; rfl
    | cons e L ih => intro A; rw [List.foldl_cons, ih, putL_length, List.length_cons]; omega
  have := this L []
  rw [List.length_nil, Nat.zero_add] at this
  exact this
end Go.Proofs.Ytelhlbplbkglkaa
