/- Series, plainly: in whatever order distinct days are set, it is the same list. -/
import Derived.Test.YtddmmnkhblcpiaaSeries5
namespace Go.Proofs.Ytddmmnkhblcpiaa
open Go.RowKit
theorem setT_twice (L : List Turn) (d u v : Int) : setT (setT L d u) d v = setT L d v := by
  induction L with
  | nil => simp [setT]
  | cons t l ih =>
    by_cases h1 : t.day < d
    · rw [setT, if_pos h1, setT, if_pos h1, ih, setT, if_pos h1]
    · by_cases h2 : t.day = d
      · rw [setT, if_neg h1, if_pos h2, setT]; simp only; rw [if_neg (by omega), if_pos trivial, setT, if_neg h1, if_pos h2]
      · rw [setT, if_neg h1, if_neg h2, setT]; simp only; rw [if_neg (by omega), if_pos trivial, setT, if_neg h1, if_neg h2]
theorem setT_comm_lt (L : List Turn) {d e : Int} (h : d < e) (u v : Int) : setT (setT L d v) e u = setT (setT L e u) d v := by
  induction L with
  | nil =>
    have a1 : ¬ e < d := by omega
    have a2 : ¬ e = d := by omega
    simp [setT, h, a1, a2]
  | cons t l ih =>
    by_cases h1 : t.day < d
    · have h1' : t.day < e := by omega
      simp only [setT, if_pos h1, if_pos h1', ih]
    · by_cases h2 : t.day = d
      · have h2' : t.day < e := by omega
        simp only [setT, if_neg h1, if_pos h2, if_pos h2', if_pos h]
      · by_cases h3 : t.day < e
        · simp only [setT, if_neg h1, if_neg h2, if_pos h3, if_pos h]
        · by_cases h4 : t.day = e
          · have a1 : ¬ e < d := by omega
            have a2 : ¬ e = d := by omega
            simp only [setT, if_neg h1, if_neg h2, if_neg h3, if_pos h4, if_pos h, if_neg a1, if_neg a2]
          · have a1 : ¬ e < d := by omega
            have a2 : ¬ e = d := by omega
            simp only [setT, if_neg h1, if_neg h2, if_neg h3, if_neg h4, if_pos h, if_neg a1, if_neg a2]
theorem setT_comm (L : List Turn) {d e : Int} (h : d ≠ e) (u v : Int) : setT (setT L d v) e u = setT (setT L e u) d v := by
  rcases Int.lt_or_gt_of_ne h with h | h
  · exact setT_comm_lt L h u v
  · exact (setT_comm_lt L h v u).symm
/-- What setting one by one makes. -/
def setAll (L : List Turn) (S : List Turn) : List Turn := S.foldl (fun L x => setT L x.day x.balance) L
theorem setAll_perm {S T : List Turn} (h : S.Perm T) (hd : S.Pairwise fun a b => a.day ≠ b.day) (L : List Turn) : setAll L S = setAll L T := by
  unfold setAll
  refine List.Perm.foldl_eq' h ?_ L
  intro x hx y hy z
  by_cases he : x.day = y.day
  · have : x = y := by
      by_cases hxy : x = y
      · exact hxy
      · exfalso
        obtain ⟨i, hi⟩ := List.getElem?_of_mem hx
        obtain ⟨j, hj⟩ := List.getElem?_of_mem hy
        have hil := lt_of_get hi
        have hjl := lt_of_get hj
        rw [List.getElem?_eq_getElem hil] at hi
        rw [List.getElem?_eq_getElem hjl] at hj
        simp only [Option.some.injEq] at hi hj
        rcases Nat.lt_or_ge i j with hij | hij
        · have := List.pairwise_iff_getElem.1 hd i j hil hjl hij; rw [hi, hj] at this; exact this he
        · rcases Nat.lt_or_ge j i with hji | hji
          · have := List.pairwise_iff_getElem.1 hd j i hjl hil hji; rw [hi, hj] at this; exact this he.symm
          · have : i = j := by omega
            subst this; rw [hi] at hj; exact hxy hj
    subst this; rfl
  · exact setT_comm z he y.balance x.balance
theorem setAll_snoc (L S : List Turn) (x : Turn) : setAll L (S ++ [x]) = setT (setAll L S) x.day x.balance := by unfold setAll; rw [List.foldl_append]; rfl
theorem swap_perm {S : List Turn} {i j : Nat} {x y : Turn} (hi : S[i]? = some x) (hj : S[j]? = some y) : ((S.set i y).set j x).Perm S := by
  have hil := lt_of_get hi
  have hjl := lt_of_get hj
  rw [List.getElem?_eq_getElem hil] at hi
  rw [List.getElem?_eq_getElem hjl] at hj
  simp only [Option.some.injEq] at hi hj
  subst hi hj
  exact List.set_set_perm hil hjl
theorem setAll_length (L S : List Turn) : (setAll L S).length ≤ L.length + S.length := by
  induction S generalizing L with
  | nil => simp [setAll]
  | cons x S ih =>
    have h1 := ih (setT L x.day x.balance)
    have h2 := setT_length L x.day x.balance
    have h3 : setAll L (x :: S) = setAll (setT L x.day x.balance) S := rfl
    rw [h3]; simp; omega
end Go.Proofs.Ytddmmnkhblcpiaa
