/- A series, plainly: balances at the ends of days, what setting a day makes of it, sums of days. -/
import Derived.Test.YtddmmnkhblcpiaaInsTurn
namespace Go.Proofs.Ytddmmnkhblcpiaa
open Go.RowKit
/-- Turn, as the program has it. -/
structure Turn where
  day : Int
  balance : Int
deriving DecidableEq, Inhabited
def Turn.cells (d : Turn) : List Value := [.int .i64 d.day, .int .i64 d.balance]
theorem Turn.cells_length (d : Turn) : d.cells.length = 2 := rfl
theorem Turn.one (L : List Turn) : ∀ u ∈ L.flatMap Turn.cells, u.oneCell' = true := by
  intro u hu
  obtain ⟨d, _, hd⟩ := List.mem_flatMap.1 hu
  simp only [Turn.cells, List.mem_cons, List.not_mem_nil, or_false] at hd
  rcases hd with rfl | rfl <;> rfl
def Rising (L : List Turn) : Prop := L.Pairwise fun a b => a.day < b.day
/-- Setting a day. -/
def setT : List Turn → Int → Int → List Turn
  | [], d, v => [⟨d, v⟩]
  | t :: l, d, v => if t.day < d then t :: setT l d v else if t.day = d then ⟨d, v⟩ :: l else ⟨d, v⟩ :: t :: l
/-- The balance of a day. -/
def onT (L : List Turn) (d : Int) : Int := L.foldl (fun v t => if t.day ≤ d then t.balance else v) 0
/-- How many turns there are up to a day, as a place that parts them. -/
def Parts (L : List Turn) (d : Int) (k : Nat) : Prop := k ≤ L.length ∧ (∀ j t, k ≤ j → L[j]? = some t → d < t.day) ∧ ∀ j t, j < k → L[j]? = some t → t.day ≤ d
theorem Rising.tail {t : Turn} {l : List Turn} (h : Rising (t :: l)) : Rising l := (List.pairwise_cons.1 h).2
theorem Rising.head {t : Turn} {l : List Turn} (h : Rising (t :: l)) : ∀ x ∈ l, t.day < x.day := (List.pairwise_cons.1 h).1
theorem Rising.get {L : List Turn} (h : Rising L) {i j : Nat} {a b : Turn} (hij : i < j) (ha : L[i]? = some a) (hb : L[j]? = some b) : a.day < b.day := by
  have hj := lt_of_get hb
  have hi := lt_of_get ha
  have := List.pairwise_iff_getElem.1 h i j hi hj hij
  rw [List.getElem?_eq_getElem hi] at ha
  rw [List.getElem?_eq_getElem hj] at hb
  simp only [Option.some.injEq] at ha hb
  rw [ha, hb] at this
  exact this
theorem setT_mem {L : List Turn} {d v : Int} {x : Turn} (h : x ∈ setT L d v) : x ∈ L ∨ x = ⟨d, v⟩ := by
  induction L with
  | nil => simp [setT] at h; exact .inr h
  | cons t l ih =>
    unfold setT at h
    split at h
    · rcases List.mem_cons.1 h with h | h
      · exact .inl (by simp [h])
      · rcases ih h with h | h
        · exact .inl (List.mem_cons_of_mem _ h)
        · exact .inr h
    · split at h
      · rcases List.mem_cons.1 h with h | h
        · exact .inr h
        · exact .inl (List.mem_cons_of_mem _ h)
      · rcases List.mem_cons.1 h with h | h
        · exact .inr h
        · exact .inl h
theorem setT_rising {L : List Turn} (h : Rising L) (d v : Int) : Rising (setT L d v) := by
  induction L with
  | nil => simp [setT, Rising]
  | cons t l ih =>
    unfold setT
    split
    · rename_i h1
      refine List.pairwise_cons.2 ⟨fun x hx => ?_, ih h.tail⟩
      rcases setT_mem hx with hx | hx
      · exact h.head x hx
      · subst hx; exact h1
    · split
      · rename_i h1 h2
        exact List.pairwise_cons.2 ⟨fun x hx => by have := h.head x hx; simp only; omega, h.tail⟩
      · rename_i h1 h2
        refine List.pairwise_cons.2 ⟨fun x hx => ?_, h⟩
        rcases List.mem_cons.1 hx with hx | hx
        · subst hx; simp only; omega
        · have := h.head x hx; simp only; omega
theorem setT_length (L : List Turn) (d v : Int) : (setT L d v).length ≤ L.length + 1 := by
  induction L with
  | nil => simp [setT]
  | cons t l ih => unfold setT; split <;> (try split) <;> simp <;> omega
/-- Where the day stands already. -/
theorem setT_at {L : List Turn} (h : Rising L) {k : Nat} {t : Turn} (hk : L[k]? = some t) (v : Int) : setT L t.day v = L.set k ⟨t.day, v⟩ := by
  induction L generalizing k with
  | nil => simp at hk
  | cons a l ih =>
    cases k with
    | zero => simp at hk; subst hk; unfold setT; rw [if_neg (by omega), if_pos rfl]; rfl
    | succ k =>
      have hk' : l[k]? = some t := by simpa using hk
      have := h.head t (List.mem_of_getElem? hk')
      unfold setT
      rw [if_pos this, ih h.tail hk']
      rfl
/-- Where it does not. -/
theorem setT_new {L : List Turn} {d v : Int} {k : Nat} (hp : Parts L d k) (hne : ∀ t ∈ L, t.day ≠ d) : setT L d v = L.take k ++ ⟨d, v⟩ :: L.drop k := by
  induction L generalizing k with
  | nil => simp [setT]
  | cons a l ih =>
    obtain ⟨h1, h2, h3⟩ := hp
    have ha := hne a (List.mem_cons_self ..)
    cases k with
    | zero =>
      have := h2 0 a (Nat.le_refl _) rfl
      unfold setT
      rw [if_neg (by omega), if_neg ha]
      rfl
    | succ k =>
      have := h3 0 a (by omega) rfl
      unfold setT
      rw [if_pos (by omega), ih (k := k) ⟨by simp at h1; omega, fun j t hj ht => h2 (j + 1) t (by omega) (by simpa using ht), fun j t hj ht => h3 (j + 1) t (by omega) (by simpa using ht)⟩ (fun t ht => hne t (List.mem_cons_of_mem _ ht))]
      rfl
theorem onT_foldl_none (l : List Turn) (d v : Int) (h : ∀ t ∈ l, d < t.day) : l.foldl (fun v t => if t.day ≤ d then t.balance else v) v = v := by
  induction l generalizing v with
  | nil => rfl
  | cons t l ih =>
    rw [List.foldl_cons, if_neg (by have := h t (List.mem_cons_self ..); omega)]
    exact ih v fun x hx => h x (List.mem_cons_of_mem _ hx)
theorem onT_snoc (l : List Turn) (t : Turn) (d : Int) : onT (l ++ [t]) d = if t.day ≤ d then t.balance else onT l d := by unfold onT; rw [List.foldl_append]; rfl
theorem onT_parts {L : List Turn} {d : Int} {k : Nat} (hp : Parts L d k) : onT L d = if k = 0 then 0 else (L[k - 1]?.map (·.balance)).getD 0 := by
  obtain ⟨h1, h2, h3⟩ := hp
  have hd : ∀ t ∈ L.drop k, d < t.day := fun t ht => by
    obtain ⟨j, hj⟩ := List.getElem?_of_mem ht
    rw [List.getElem?_drop] at hj
    exact h2 (k + j) t (by omega) hj
  have e : onT L d = onT (L.take k) d := by
    unfold onT
    conv => lhs; rw [← List.take_append_drop k L, List.foldl_append]
    exact onT_foldl_none _ _ _ hd
  rw [e]
  split
  · rename_i h0; subst h0; simp [onT]
  · rename_i h0
    obtain ⟨m, rfl⟩ : ∃ m, k = m + 1 := ⟨k - 1, by omega⟩
    have hx : L[m]? = some L[m] := List.getElem?_eq_getElem (by omega)
    rw [List.take_add_one, hx]
    simp only [Option.toList_some]
    rw [onT_snoc, if_pos (h3 m _ (by omega) hx), Nat.add_sub_cancel, hx]
    rfl
/-- How many days from one to another. -/
def daysT (a b : Int) : Int := if b < a then 0 else b - a + 1
def capT (l : List Turn) (b : Int) : Int := match l with
  | [] => b
  | u :: _ => min b (u.day - 1)
/-- The sum, turn by turn. -/
def progSum : List Turn → Int → Int → Int
  | [], _, _ => 0
  | t :: l, a, b => daysT (max t.day a) (capT l b) * t.balance + progSum l a b
theorem progSum_cons (t : Turn) (l : List Turn) (a b : Int) : progSum (t :: l) a b = daysT (max t.day a) (capT l b) * t.balance + progSum l a b := rfl
/-- The sum, day by day. -/
def refSum (L : List Turn) (a : Int) : Nat → Int
  | 0 => 0
  | n + 1 => refSum L a n + onT L (a + n)
theorem onT_cons_far (t : Turn) (l : List Turn) (d : Int) (h : ∀ x ∈ l, d < x.day) : onT (t :: l) d = if t.day ≤ d then t.balance else 0 := by
  unfold onT
  rw [List.foldl_cons, onT_foldl_none _ _ _ h]
theorem onT_cons_near (t u : Turn) (l : List Turn) (d : Int) (h : u.day ≤ d) : onT (t :: u :: l) d = onT (u :: l) d := by
  unfold onT
  simp only [List.foldl_cons, if_pos h]
theorem onT_far (l : List Turn) (d : Int) (h : ∀ x ∈ l, d < x.day) : onT l d = 0 := onT_foldl_none _ _ _ h
theorem daysT_step (x a d : Int) (had : a ≤ d) : daysT (max x a) d = daysT (max x a) (d - 1) + if x ≤ d then 1 else 0 := by
  unfold daysT; split <;> split <;> split <;> omega
theorem progSum_step {L : List Turn} (h : Rising L) (a d : Int) (had : a ≤ d) : progSum L a d = progSum L a (d - 1) + onT L d := by
  induction L with
  | nil => simp [progSum, onT]
  | cons t l ih =>
    have ih := ih h.tail
    cases l with
    | nil =>
      rw [onT_cons_far t [] d (by simp)]
      simp only [progSum, capT]
      rw [daysT_step _ _ _ had]
      split <;> simp [Int.add_mul]
    | cons u l =>
      by_cases hu : u.day ≤ d
      · rw [onT_cons_near t u l d hu]
        rw [progSum_cons t (u :: l), progSum_cons t (u :: l), ih]
        simp only [capT]
        rw [show min d (u.day - 1) = min (d - 1) (u.day - 1) by omega]
        omega
      · have hall : ∀ x ∈ u :: l, d < x.day := fun x hx => by
          rcases List.mem_cons.1 hx with hx | hx
          · subst hx; omega
          · have := h.tail.head x hx; omega
        rw [onT_cons_far t (u :: l) d hall]
        rw [progSum_cons t (u :: l), progSum_cons t (u :: l), ih, onT_far _ _ hall]
        simp only [capT]
        rw [show min d (u.day - 1) = d by omega, show min (d - 1) (u.day - 1) = d - 1 by omega, daysT_step _ _ _ had]
        split <;> simp [Int.add_mul]
        omega
theorem progSum_none {L : List Turn} (a : Int) : progSum L a (a - 1) = 0 := by
  induction L with
  | nil => rfl
  | cons t l ih =>
    rw [progSum, ih]
    have : daysT (max t.day a) (capT l (a - 1)) = 0 := by
      unfold daysT
      rw [if_pos]
      cases l with
      | nil => simp only [capT]; omega
      | cons u l => simp only [capT]; omega
    rw [this]; simp
theorem refSum_eq {L : List Turn} (h : Rising L) (a : Int) (n : Nat) : refSum L a n = progSum L a (a + n - 1) := by
  induction n with
  | zero => simp [refSum, progSum_none]
  | succ n ih =>
    rw [refSum, ih, progSum_step h a (a + ((n + 1 : Nat) : Int) - 1) (by omega)]
    rw [show a + ((n + 1 : Nat) : Int) - 1 - 1 = a + n - 1 by omega, show a + ((n + 1 : Nat) : Int) - 1 = a + n by omega]
/-- The numbers of a series are in their bounds. -/
def SerOk (from_ : Int) (L : List Turn) : Prop := Rising L ∧ ∀ t ∈ L, from_ ≤ t.day ∧ t.day ≤ from_ + 40000 ∧ 0 ≤ t.balance ∧ t.balance ≤ 1000000000000000
theorem daysT_nonneg (a b : Int) : 0 ≤ daysT a b := by unfold daysT; split <;> omega
theorem progSum_nonneg {L : List Turn} (h : ∀ t ∈ L, 0 ≤ t.balance) (a b : Int) : 0 ≤ progSum L a b := by
  induction L with
  | nil => exact Int.le_refl _
  | cons t l ih =>
    have h1 := Int.mul_nonneg (daysT_nonneg (max t.day a) (capT l b)) (h t (List.mem_cons_self ..))
    have h2 := ih fun x hx => h x (List.mem_cons_of_mem _ hx)
    rw [progSum]; omega
theorem onT_bd {L : List Turn} (h : ∀ t ∈ L, 0 ≤ t.balance ∧ t.balance ≤ 1000000000000000) (d : Int) : 0 ≤ onT L d ∧ onT L d ≤ 1000000000000000 := by
  have key : ∀ (l : List Turn) (v : Int), (∀ t ∈ l, 0 ≤ t.balance ∧ t.balance ≤ 1000000000000000) → 0 ≤ v ∧ v ≤ 1000000000000000 →
      0 ≤ l.foldl (fun v t => if t.day ≤ d then t.balance else v) v ∧ l.foldl (fun v t => if t.day ≤ d then t.balance else v) v ≤ 1000000000000000 := by
    intro l
    induction l with
    | nil => intro v _ hv; exact hv
    | cons t l ih =>
      intro v hl hv
      rw [List.foldl_cons]
      refine ih _ (fun x hx => hl x (List.mem_cons_of_mem _ hx)) ?_
      split
      · exact hl t (List.mem_cons_self ..)
      · exact hv
  exact key L 0 h (by omega)
theorem refSum_bd {L : List Turn} (h : ∀ t ∈ L, 0 ≤ t.balance ∧ t.balance ≤ 1000000000000000) (a : Int) (n : Nat) : 0 ≤ refSum L a n ∧ refSum L a n ≤ n * 1000000000000000 := by
  induction n with
  | zero => simp [refSum]
  | succ n ih => have := onT_bd h (a + n); rw [refSum]; omega
theorem setT_ok {f : Int} {L : List Turn} (h : SerOk f L) {d v : Int} (h1 : f ≤ d) (h2 : d ≤ f + 40000) (h3 : 0 ≤ v) (h4 : v ≤ 1000000000000000) : SerOk f (setT L d v) :=
  ⟨setT_rising h.1 d v, fun t ht => by
    rcases setT_mem ht with ht | ht
    · exact h.2 t ht
    · subst ht; exact ⟨h1, h2, h3, h4⟩⟩
end Go.Proofs.Ytddmmnkhblcpiaa
