/- AdjustOnto, plain: what lies between two statements, added to the first, makes the second. -/
import Derived.Test.YthokcmbgamanbaaAdj9
namespace Go.Proofs.Ythokcmbgamanbaa
theorem ontos_append (s : Stm) (l m : List Adj) (h : (s.ontos l).1 = 0) : s.ontos (l ++ m) = (s.ontos l).2.ontos m := by
  induction l generalizing s with
  | nil => rfl
  | cons a l ih =>
    simp only [List.cons_append, Stm.ontos] at h ⊢
    split
    · rename_i hc
      rw [if_pos hc] at h
      split
      · rename_i h0
        rw [if_pos h0] at h
        exact ih _ h
      · rename_i h0
        rw [if_neg h0] at h
        exact absurd h h0
    · rename_i hc
      rw [if_neg hc] at h
      exact ih _ h
/-- Numbers that may be added to one another. -/
def small (v : Int) : Prop := 0 ≤ v ∧ v ≤ 1000000000000000
theorem moreB_small {v t : Int} (hv : small v) (ht : small t) : moreB v (t - v) = true := by
  have hm : ∀ x, moneyB x = decide (0 ≤ x ∧ x ≤ 1000000000000000) := fun _ => rfl
  unfold moreB
  rw [hm, hm]
  obtain ⟨h1, h2⟩ := hv
  obtain ⟨h3, h4⟩ := ht
  simp only [Bool.and_eq_true, decide_eq_true_eq]
  refine ⟨⟨⟨h1, h2⟩, ?_, ?_⟩, ?_, ?_⟩ <;> omega
def Ln.small (x : Ln) : Prop := Go.Proofs.Ythokcmbgamanbaa.small x.balance ∧ Go.Proofs.Ythokcmbgamanbaa.small x.interest
/-- Lines of two statements, the first k of the second, the others of the first. -/
def mixLn (X Y : List Ln) (k : Nat) : List Ln := Y.take k ++ X.drop k
theorem mixLn_length {X Y : List Ln} (h : X.length = Y.length) {k : Nat} (hk : k ≤ X.length) : (mixLn X Y k).length = X.length := by
  simp only [mixLn, List.length_append, List.length_take, List.length_drop]; omega
theorem mixLn_get {X Y : List Ln} (h : X.length = Y.length) {k : Nat} {x : Ln} (hx : X[k]? = some x) : (mixLn X Y k)[k]? = some x := by
  have hk := lt_of_get hx
  unfold mixLn
  rw [List.getElem?_append_right (by simp; omega), List.getElem?_drop, List.length_take, Nat.min_eq_left (by omega)]
  simpa using hx
theorem mixLn_set {X Y : List Ln} (h : X.length = Y.length) {k : Nat} {y : Ln} (hy : Y[k]? = some y) : (mixLn X Y k).set k y = mixLn X Y (k + 1) := by
  have hk := lt_of_get hy
  unfold mixLn
  rw [List.set_append_right _ _ (by simp; omega), List.length_take, Nat.min_eq_left (by omega), Nat.sub_self]
  have hkx : k < X.length := by omega
  rw [List.drop_eq_getElem_cons hkx, List.set_cons_zero, take_snoc' hy, List.append_assoc]
  rfl
/-- The lines, one by one. -/
theorem ontos_lines (seq : Int) (s : Stm) (Y : List Ln) (hlen : s.lines.length = Y.length) (hs : ∀ x ∈ s.lines, x.small) (hY : ∀ y ∈ Y, y.small) (hr : ∀ (i : Nat) (x y : Ln), s.lines[i]? = some x → Y[i]? = some y → x.rate = y.rate) :
    ∀ k, k ≤ s.lines.length → s.ontos (linesAdj seq s.cycle s.lines Y k) = (0, { s with lines := mixLn s.lines Y k })
  | 0, _ => by simp [linesAdj, Stm.ontos, mixLn]
  | k + 1, hk => by
    obtain ⟨x, hx⟩ := get_some (L := s.lines) (k := k) (by omega)
    obtain ⟨y, hy⟩ := get_some (L := Y) (k := k) (by omega)
    have ih := ontos_lines seq s Y hlen hs hY hr k (by omega)
    have hxs := hs x (List.mem_of_getElem? hx)
    have hys := hY y (List.mem_of_getElem? hy)
    have hrate := hr k x y hx hy
    have hl : linesAdj seq s.cycle s.lines Y (k + 1) = linesAdj seq s.cycle s.lines Y k ++ lineAdj seq s.cycle k x y := by simp only [linesAdj, hx, hy]
    rw [hl, ontos_append _ _ _ (by rw [ih]), ih]
    have hset := mixLn_set hlen hy
    have hget := mixLn_get (Y := Y) hlen hx
    have hml := mixLn_length (k := k) hlen (by omega)
    by_cases he : x.balance = y.balance ∧ x.interest = y.interest
    · have e : lineAdj seq s.cycle k x y = [] := by unfold lineAdj; rw [if_pos he]
      have hxy : x = y := by
        obtain ⟨a, b, c⟩ := x
        obtain ⟨a', b', c'⟩ := y
        simp only at he hrate
        rw [he.1, he.2, hrate]
      rw [e]
      subst hxy
      have : (mixLn s.lines Y k).set k x = mixLn s.lines Y k := by
        apply List.ext_getElem?
        intro i
        rw [List.getElem?_set]
        split
        · rename_i hik
          subst hik
          rw [hget]; simp; omega
        · rfl
      rw [← hset, this]
      rfl
    · have e : lineAdj seq s.cycle k x y = [⟨seq, s.cycle, (k : Int) + 1, y.balance - x.balance, y.interest - x.interest, 0, 0, 0, 0⟩] := by unfold lineAdj; rw [if_neg he]
      rw [e]
      have hon : Stm.onto { s with lines := mixLn s.lines Y k } ⟨seq, s.cycle, (k : Int) + 1, y.balance - x.balance, y.interest - x.interest, 0, 0, 0, 0⟩ = (0, { s with lines := mixLn s.lines Y (k + 1) }) := by
        unfold Stm.onto
        dsimp only
        rw [if_neg (by rw [hml]; omega), if_pos (by omega), show ((k : Int) + 1 - 1).toNat = k by omega, hget]
        dsimp only
        rw [moreB_small hxs.1 hys.1, moreB_small hxs.2 hys.2]
        simp only [Bool.and_self, if_true]
        have : (⟨x.balance + (y.balance - x.balance), x.interest + (y.interest - x.interest), x.rate⟩ : Ln) = y := by
          obtain ⟨a', b', c'⟩ := y
          simp only at hrate ⊢
          rw [hrate]
          congr 1 <;> omega
        rw [this, hset]
      simp only [Stm.ontos, if_true, hon]
/-- What lies between two statements, added to the first, makes the second. -/
theorem ontos_one (seq : Int) (s t : Stm) (hc : s.cycle = t.cycle) (hf : s.fr = t.fr) (ht : s.to = t.to) (hd : s.due = t.due) (hlen : s.lines.length = t.lines.length) (hs : ∀ x ∈ s.lines, x.small) (hY : ∀ y ∈ t.lines, y.small)
    (hr : ∀ (i : Nat) (x y : Ln), s.lines[i]? = some x → t.lines[i]? = some y → x.rate = y.rate) (h1 : small s.total) (h2 : small s.credit) (h3 : small s.min) (h4 : small t.total) (h5 : small t.credit) (h6 : small t.min) : s.ontos (oneAdj seq s t) = (0, t) := by
  have hl := ontos_lines seq s t.lines hlen hs hY hr s.lines.length (Nat.le_refl _)
  have hm : mixLn s.lines t.lines s.lines.length = t.lines := by
    unfold mixLn
    rw [List.take_of_length_le (by omega), List.drop_eq_nil_of_le (Nat.le_refl _), List.append_nil]
  rw [hm] at hl
  unfold oneAdj
  rw [ontos_append _ _ _ (by rw [hl]), hl]
  by_cases hw : wholeSame s t = true
  · rw [if_pos hw]
    simp only [wholeSame, Bool.and_eq_true, decide_eq_true_eq, beq_iff_eq] at hw
    obtain ⟨⟨⟨w1, w2⟩, w3⟩, w4⟩ := hw
    obtain ⟨a1, a2, a3, a4, a5, a6, a7, a8, a9⟩ := s
    obtain ⟨b1, b2, b3, b4, b5, b6, b7, b8, b9⟩ := t
    simp only at hc hf ht hd w1 w2 w3 w4
    subst hc hf ht hd w1 w2 w3 w4
    rfl
  · rw [if_neg hw]
    have hon : Stm.onto { s with lines := t.lines } (wholeAdj seq s t) = (0, t) := by
      unfold Stm.onto wholeAdj
      dsimp only
      rw [if_neg (by omega), if_neg (by omega), moreB_small h1 h4, moreB_small h2 h5, moreB_small h3 h6]
      have hg : graceB s.grace (turnedI s.grace t.grace) = true := by cases s.grace <;> cases t.grace <;> decide
      have hg2 : turnB s.grace (turnedI s.grace t.grace) = t.grace := by cases s.grace <;> cases t.grace <;> decide
      rw [hg, hg2]
      simp only [Bool.and_self, if_true]
      obtain ⟨a1, a2, a3, a4, a5, a6, a7, a8, a9⟩ := s
      obtain ⟨b1, b2, b3, b4, b5, b6, b7, b8, b9⟩ := t
      simp only at hc hf ht hd ⊢
      subst hc hf ht hd
      rw [show a5 + (b5 - a5) = b5 by omega, show a6 + (b6 - a6) = b6 by omega, show a7 + (b7 - a7) = b7 by omega]
    have hcy : (wholeAdj seq s t).cycle = s.cycle := rfl
    simp only [Stm.ontos, hcy, if_true, hon]
end Go.Proofs.Ythokcmbgamanbaa
