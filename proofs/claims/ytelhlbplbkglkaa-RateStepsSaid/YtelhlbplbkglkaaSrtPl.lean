/- Stable sorting of events by their days, in plain lists: what is alike day by day, what is sorted, and the laws of an exchange, of a turned run and of a merge. -/
import Derived.Test.YtelhlbplbkglkaaTerms
namespace Go.Proofs.Ytelhlbplbkglkaa
open Go.RowKit
/-- The day of the event at a place. -/
def dy (X : List Ev) (t : Nat) : Int := match X[t]? with | some x => x.day | none => 0
theorem dy_of {X : List Ev} {t : Nat} {x : Ev} (h : X[t]? = some x) : dy X t = x.day := by unfold dy; rw [h]
theorem dy_congr {X Y : List Ev} {s t : Nat} (h : X[s]? = Y[t]?) : dy X s = dy Y t := by unfold dy; rw [h]
/-- The same events, each day's in the same order. -/
def Alike (X Y : List Ev) : Prop := ∀ k : Int, X.filter (fun x => decide (x.day = k)) = Y.filter (fun x => decide (x.day = k))
theorem Alike.refl (X : List Ev) : Alike X X := fun _ => rfl
theorem Alike.symm {X Y : List Ev} (h : Alike X Y) : Alike Y X := fun k => (h k).symm
theorem Alike.trans {X Y Z : List Ev} (h : Alike X Y) (h' : Alike Y Z) : Alike X Z := fun k => (h k).trans (h' k)
theorem Alike.app {X X' Y Y' : List Ev} (h : Alike X X') (h' : Alike Y Y') : Alike (X ++ Y) (X' ++ Y') := fun k => by rw [List.filter_append, List.filter_append, h k, h' k]
theorem Alike.mem {X Y : List Ev} (h : Alike X Y) {x : Ev} (hx : x ∈ X) : x ∈ Y := by
  have : x ∈ X.filter (fun y => decide (y.day = x.day)) := List.mem_filter.2 ⟨hx, by simp⟩
  rw [h] at this
  exact (List.mem_filter.1 this).1
theorem Alike.turn {U V : List Ev} (h : ∀ u ∈ U, ∀ v ∈ V, v.day < u.day) : Alike (V ++ U) (U ++ V) := by
  intro k
  rw [List.filter_append, List.filter_append]
  by_cases hU : ∃ u ∈ U, u.day = k
  · obtain ⟨u, hu, rfl⟩ := hU
    have : V.filter (fun x => decide (x.day = u.day)) = [] := by
      rw [List.filter_eq_nil_iff]
      intro v hv
      have := h u hu v hv
      simp; omega
    rw [this]; simp
  · have : U.filter (fun x => decide (x.day = k)) = [] := by
      rw [List.filter_eq_nil_iff]
      intro u hu
      simp only [decide_eq_true_eq]
      exact fun e => hU ⟨u, hu, e⟩
    rw [this]; simp
theorem Alike.cancel {P X Y S : List Ev} (h : Alike (P ++ X ++ S) (P ++ Y ++ S)) : Alike X Y := by
  intro k
  have := h k
  simp only [List.filter_append] at this
  exact List.append_cancel_left (List.append_cancel_right this)
/-- The days do not fall between two places. -/
def Upto (X : List Ev) (a b : Nat) : Prop := ∀ s t, a ≤ s → s < t → t < b → dy X s ≤ dy X t
theorem Upto.le {X : List Ev} {a b : Nat} (h : Upto X a b) {s t : Nat} (h1 : a ≤ s) (h2 : s ≤ t) (h3 : t < b) : dy X s ≤ dy X t := by
  rcases Nat.lt_or_ge s t with h4 | h4
  · exact h s t h1 h4 h3
  · obtain rfl : s = t := by omega
    exact Int.le_refl _
theorem Upto.sub {X : List Ev} {a b a' b' : Nat} (h : Upto X a b) (h1 : a ≤ a') (h2 : b' ≤ b) : Upto X a' b' := fun s t h3 h4 h5 => h s t (by omega) h4 (by omega)
theorem Upto.one {X : List Ev} {a b : Nat} (h : b ≤ a + 1) : Upto X a b := fun s t h1 h2 h3 => by omega
theorem Upto.eq {X Y : List Ev} {a b : Nat} (h : Upto X a b) (he : ∀ t, a ≤ t → t < b → Y[t]? = X[t]?) : Upto Y a b := fun s t h1 h2 h3 => by
  rw [dy_congr (he s h1 (by omega)), dy_congr (he t (by omega) h3)]; exact h s t h1 h2 h3
/-- What sorting leaves: another order of the same row, alike; what lies outside two places is as it was. -/
structure Turned (X Y : List Ev) (a b : Nat) : Prop where
  len : Y.length = X.length
  out : ∀ t, t < a ∨ b ≤ t → Y[t]? = X[t]?
  alike : Alike Y X
theorem Turned.refl (X : List Ev) (a b : Nat) : Turned X X a b := ⟨rfl, fun _ _ => rfl, Alike.refl _⟩
theorem Turned.trans {X Y Z : List Ev} {a b : Nat} (h : Turned X Y a b) (h' : Turned Y Z a b) : Turned X Z a b :=
  ⟨h'.len.trans h.len, fun t ht => (h'.out t ht).trans (h.out t ht), h'.alike.trans h.alike⟩
theorem Turned.wide {X Y : List Ev} {a b a' b' : Nat} (h : Turned X Y a b) (h1 : a' ≤ a) (h2 : b ≤ b') : Turned X Y a' b' := ⟨h.len, fun t ht => h.out t (by omega), h.alike⟩
theorem Turned.parts {X Y : List Ev} {a b : Nat} (h : Turned X Y a b) (hab : a ≤ b) (hb : b ≤ X.length) :
    ∃ P U V S, X = P ++ U ++ S ∧ Y = P ++ V ++ S ∧ P.length = a ∧ U.length = b - a ∧ V.length = b - a := by
  refine ⟨X.take a, (X.take b).drop a, (Y.take b).drop a, X.drop b, ?_, ?_, ?_, ?_, ?_⟩
  · have : X.take a = (X.take b).take a := by rw [List.take_take, Nat.min_eq_left hab]
    rw [this, List.take_append_drop, List.take_append_drop]
  · have h1 : X.take a = (Y.take b).take a := by
      rw [List.take_take, Nat.min_eq_left hab]
      refine List.ext_getElem? fun t => ?_
      rw [List.getElem?_take, List.getElem?_take]
      split
      · exact (h.out t (.inl (by omega))).symm
      · rfl
    have h2 : X.drop b = Y.drop b := by
      refine List.ext_getElem? fun t => ?_
      rw [List.getElem?_drop, List.getElem?_drop]
      exact (h.out _ (.inr (by omega))).symm
    rw [h1, h2, List.take_append_drop, List.take_append_drop]
  · rw [List.length_take]; omega
  · rw [List.length_drop, List.length_take]; omega
  · rw [List.length_drop, List.length_take, h.len]; omega
/-- Each event between the two places was between them before. -/
theorem Turned.from {X Y : List Ev} {a b : Nat} (h : Turned X Y a b) (hb : b ≤ X.length) {t : Nat} (h1 : a ≤ t) (h2 : t < b) : ∃ s, a ≤ s ∧ s < b ∧ Y[t]? = X[s]? := by
  obtain ⟨P, U, V, S, rfl, rfl, rfl, hU, hV⟩ := h.parts (by omega) hb
  have hc := h.alike.cancel
  have ht : t - P.length < V.length := by omega
  have hm := hc.mem (List.getElem_mem ht)
  obtain ⟨i, hi, he⟩ := List.getElem_of_mem hm
  refine ⟨P.length + i, by omega, by omega, ?_⟩
  rw [List.append_assoc, List.append_assoc, List.getElem?_append_right (by omega), List.getElem?_append_left ht, List.getElem?_append_right (by omega), List.getElem?_append_left (by omega), Nat.add_sub_cancel_left, List.getElem?_eq_getElem ht, List.getElem?_eq_getElem hi, he]
theorem Turned.bound {X Y : List Ev} {a b : Nat} (h : Turned X Y a b) (hb : b ≤ X.length) {q : Int → Prop} (hq : ∀ t, a ≤ t → t < b → q (dy X t)) : ∀ t, a ≤ t → t < b → q (dy Y t) := fun t h1 h2 => by
  obtain ⟨s, h3, h4, h5⟩ := h.from hb h1 h2
  rw [dy_congr h5]; exact hq s h3 h4
/-- An exchange of two that lie side by side, the later one of an earlier day. -/
def swp (X : List Ev) (i j : Nat) : List Ev := match X[i]?, X[j]? with | some x, some y => (X.set i y).set j x | _, _ => X
theorem swp_of {X : List Ev} {i j : Nat} {x y : Ev} (h1 : X[i]? = some x) (h2 : X[j]? = some y) : swp X i j = (X.set i y).set j x := by unfold swp; rw [h1, h2]
theorem swp_length (X : List Ev) (i j : Nat) : (swp X i j).length = X.length := by unfold swp; split <;> simp
theorem swp_get {X : List Ev} {i j : Nat} (hi : i < X.length) (hj : j < X.length) (t : Nat) : (swp X i j)[t]? = if t = j then X[i]? else if t = i then X[j]? else X[t]? := by
  rw [swp_of (List.getElem?_eq_getElem hi) (List.getElem?_eq_getElem hj), List.getElem?_set, List.getElem?_set]
  simp only [List.length_set]
  by_cases h1 : t = j
  · subst h1; simp [hj, hi]
  · rw [if_neg (fun e => h1 e.symm), if_neg h1]
    by_cases h2 : t = i
    · subst h2; simp [hi, hj]
    · rw [if_neg (fun e => h2 e.symm), if_neg h2]
theorem split_two {X : List Ev} {i : Nat} {x y : Ev} (h1 : X[i]? = some x) (h2 : X[i + 1]? = some y) : X = X.take i ++ [x, y] ++ X.drop (i + 2) := by
  obtain ⟨hl, rfl⟩ := List.getElem?_eq_some_iff.1 h1
  obtain ⟨hl2, rfl⟩ := List.getElem?_eq_some_iff.1 h2
  rw [List.append_assoc]
  show X = X.take i ++ (X[i] :: X[i + 1] :: X.drop (i + 1 + 1))
  rw [List.getElem_cons_drop, List.getElem_cons_drop, List.take_append_drop]
theorem swp_turned {X : List Ev} {i a b : Nat} (ha : a ≤ i) (hb : i + 2 ≤ b) (hl : i + 1 < X.length) (hd : dy X (i + 1) < dy X i) : Turned X (swp X i (i + 1)) a b := by
  refine ⟨swp_length _ _ _, fun t ht => ?_, ?_⟩
  · rw [swp_get (by omega) hl, if_neg (by omega), if_neg (by omega)]
  · have h1 : X[i]? = some X[i] := List.getElem?_eq_getElem (by omega)
    have h2 : X[i + 1]? = some X[i + 1] := List.getElem?_eq_getElem hl
    rw [dy_of h1, dy_of h2] at hd
    have hs := split_two h1 h2
    have e : swp X i (i + 1) = X.take i ++ [X[i + 1], X[i]] ++ X.drop (i + 2) := by
      refine List.ext_getElem? fun t => ?_
      rw [swp_get (by omega) hl]
      have hlt : (X.take i).length = i := by rw [List.length_take]; omega
      rcases Nat.lt_trichotomy t i with h | h | h
      · rw [if_neg (by omega), if_neg (by omega), List.append_assoc, List.getElem?_append_left (by omega), List.getElem?_take_of_lt h]
      · subst h
        rw [if_neg (by omega), if_pos rfl, List.append_assoc, List.getElem?_append_right (by omega), hlt, Nat.sub_self]; exact h2
      · rcases Nat.lt_or_ge (i + 1) t with h' | h'
        · rw [if_neg (by omega), if_neg (by omega), List.getElem?_append_right (by simp only [List.length_append, hlt, List.length_cons, List.length_nil]; omega), List.getElem?_drop]
          simp only [List.length_append, hlt, List.length_cons, List.length_nil]
          congr 1; omega
        · obtain rfl : t = i + 1 := by omega
          rw [if_pos rfl, List.append_assoc, List.getElem?_append_right (by omega), hlt, Nat.add_sub_cancel_left]; exact h1
    rw [e]
    conv => rhs; rw [hs]
    refine Alike.app (Alike.app (Alike.refl _) ?_) (Alike.refl _)
    show Alike ([X[i + 1]] ++ [X[i]]) ([X[i]] ++ [X[i + 1]])
    exact Alike.turn (by simpa using hd)
theorem swp_comm (X : List Ev) (i : Nat) (hl : i + 1 < X.length) : swp X (i + 1) i = swp X i (i + 1) := by
  refine List.ext_getElem? fun t => ?_
  rw [swp_get hl (by omega), swp_get (by omega) hl]
  by_cases h : t = i
  · subst h; rw [if_pos rfl, if_neg (by omega), if_pos rfl]
  · rw [if_neg h, if_neg h]
/-- Two orders of the same events, both by rising days, are one. -/
theorem Alike.one : ∀ {X Y : List Ev}, Alike X Y → X.Pairwise (fun x y => x.day ≤ y.day) → Y.Pairwise (fun x y => x.day ≤ y.day) → X = Y
  | [], Y, h, _, _ => by
    cases Y with
    | nil => rfl
    | cons y Y => have := h.symm.mem (x := y) (by simp); simp at this
  | x :: X, Y, h, hX, hY => by
    cases Y with
    | nil => have := h.mem (x := x) (by simp); simp at this
    | cons y Y =>
      have e1 : y.day ≤ x.day := by
        have := h.mem (x := x) (by simp)
        rcases List.mem_cons.1 this with rfl | hm
        · exact Int.le_refl _
        · exact (List.pairwise_cons.1 hY).1 x hm
      have e2 : x.day ≤ y.day := by
        have := h.symm.mem (x := y) (by simp)
        rcases List.mem_cons.1 this with rfl | hm
        · exact Int.le_refl _
        · exact (List.pairwise_cons.1 hX).1 y hm
      have e : x.day = y.day := by omega
      have hk := h x.day
      rw [List.filter_cons, List.filter_cons, if_pos (by simp), if_pos (by simp [e])] at hk
      obtain ⟨rfl, _⟩ := List.cons.inj hk
      congr 1
      refine Alike.one (fun k => ?_) (List.pairwise_cons.1 hX).2 (List.pairwise_cons.1 hY).2
      have := h k
      rw [List.filter_cons, List.filter_cons] at this
      split at this
      · exact (List.cons.inj this).2
      · exact this
theorem Upto.pair {X : List Ev} (h : Upto X 0 X.length) : X.Pairwise (fun x y => x.day ≤ y.day) := by
  rw [List.pairwise_iff_getElem]
  intro i j hi hj hij
  have := h i j (Nat.zero_le _) hij hj
  rwa [dy_of (List.getElem?_eq_getElem hi), dy_of (List.getElem?_eq_getElem hj)] at this
/-- A search for the first place from which on something holds. -/
structure Bs (p : Nat → Prop) (lo hi i j : Nat) : Prop where
  le : i ≤ j
  lo' : lo ≤ i
  hi' : j ≤ hi
  below : ∀ t, lo ≤ t → t < i → ¬ p t
  above : ∀ t, j ≤ t → t < hi → p t
theorem Bs.start {p : Nat → Prop} {lo hi : Nat} (h : lo ≤ hi) : Bs p lo hi lo hi := ⟨h, Nat.le_refl _, Nat.le_refl _, fun t _ _ => by omega, fun t _ _ => by omega⟩
theorem Bs.up {p : Nat → Prop} {lo hi i j h : Nat} (b : Bs p lo hi i j) (hm : ∀ s t, lo ≤ s → s ≤ t → t < hi → p s → p t) (h1 : i ≤ h) (h2 : h < j) (hp : ¬ p h) : Bs p lo hi (h + 1) j :=
  ⟨by omega, by have := b.lo'; omega, b.hi', fun t h3 h4 hpt => hp (hm t h h3 (by omega) (by have := b.hi'; omega) hpt), b.above⟩
theorem Bs.down {p : Nat → Prop} {lo hi i j h : Nat} (b : Bs p lo hi i j) (hm : ∀ s t, lo ≤ s → s ≤ t → t < hi → p s → p t) (h1 : i ≤ h) (h2 : h < j) (hp : p h) : Bs p lo hi i h :=
  ⟨h1, b.lo', by have := b.hi'; omega, b.below, fun t h3 h4 => hm h t (by have := b.lo'; omega) h3 h4 hp⟩
end Go.Proofs.Ytelhlbplbkglkaa
