/- Rates, in plain lists: the last word up to a day among a tranche's changes, found by a fold or by a walk through the sorted ones. -/
import Derived.Test.YtelhlbplbkglkaaSrtPl3
import Derived.Test.YtelhlbplbkglkaaEventA
namespace Go.Proofs.Ytelhlbplbkglkaa
open Go.RowKit
/-- Whether an event sets a tranche's rate. -/
def rateQ (tr : Int) (e : Ev) : Bool := e.kind == 6 && e.tranche == tr
def rateStep (tr day : Int) (s : Int × Int) (e : Ev) : Int × Int := if e.kind = 6 ∧ e.tranche = tr ∧ e.day ≤ day ∧ s.2 ≤ e.day then (e.amount, e.day) else s
/-- A tranche's rate on a day, as the document tells it. -/
def rateAt (r0 st : Int) (L : List Ev) (tr day : Int) : Int := (L.foldl (rateStep tr day) (r0, st)).1
/-- A tranche's changes, by rising days. -/
def turnsL (L : List Ev) (tr : Int) : List Ev := sortL (L.filter (rateQ tr))
def upTo (day : Int) (T : List Ev) : List Ev := T.filter (fun x => decide (x.day ≤ day))
def lastR (r0 st : Int) (P : List Ev) : Int × Int := match P.getLast? with | none => (r0, st) | some x => (x.amount, x.day)
theorem lastR_snoc (r0 st : Int) (P : List Ev) (x : Ev) : lastR r0 st (P ++ [x]) = (x.amount, x.day) := by simp [lastR]
theorem lastR_app (r0 st : Int) (P Q : List Ev) (h : Q ≠ []) : lastR r0 st (P ++ Q) = lastR r0 st Q := by
  obtain ⟨x, hx⟩ : ∃ x, Q.getLast? = some x := ⟨Q.getLast h, List.getLast?_eq_some_getLast h⟩
  simp [lastR, List.getLast?_append, hx]
theorem lastR_mem {r0 st : Int} {P : List Ev} (h : P ≠ []) : ∃ x ∈ P, lastR r0 st P = (x.amount, x.day) :=
  ⟨P.getLast h, List.getLast_mem h, by simp [lastR, List.getLast?_eq_some_getLast h]⟩
theorem upTo_app (day : Int) (A B : List Ev) : upTo day (A ++ B) = upTo day A ++ upTo day B := List.filter_append ..
theorem upTo_put_no {day : Int} {T : List Ev} {e : Ev} (h : ¬ e.day ≤ day) : upTo day (putL T e) = upTo day T := by
  unfold putL
  rw [upTo_app, upTo_app, List.append_assoc]
  have : upTo day [e] = [] := by simp [upTo, h]
  rw [this, List.nil_append, ← upTo_app, List.take_append_drop]
theorem lastR_put {r0 st day : Int} {T : List Ev} (hs : Sorted T) {e : Ev} (h : e.day ≤ day) (hst : st ≤ e.day) :
    lastR r0 st (upTo day (putL T e)) = if (lastR r0 st (upTo day T)).2 ≤ e.day then (e.amount, e.day) else lastR r0 st (upTo day T) := by
  obtain ⟨h1, h2⟩ := putL_parts hs e
  have hT : upTo day T = upTo day (T.take (placeOf e.day T T.length)) ++ upTo day (T.drop (placeOf e.day T T.length)) := by rw [← upTo_app, List.take_append_drop]
  have hE : upTo day [e] = [e] := by simp [upTo, h]
  unfold putL
  rw [upTo_app, upTo_app, hE, hT]
  by_cases hd : upTo day (T.drop (placeOf e.day T T.length)) = []
  · rw [hd, List.append_nil, List.append_nil, lastR_snoc]
    have hle : (lastR r0 st (upTo day (T.take (placeOf e.day T T.length)))).2 ≤ e.day := by
      by_cases hp : upTo day (T.take (placeOf e.day T T.length)) = []
      · rw [hp]; exact hst
      · obtain ⟨x, hx, he⟩ := lastR_mem (r0 := r0) (st := st) hp
        rw [he]
        exact h1 x (List.mem_filter.1 hx).1
    rw [if_pos hle]
  · rw [lastR_app _ _ _ _ hd, lastR_app _ _ _ _ hd]
    obtain ⟨x, hx, he⟩ := lastR_mem (r0 := r0) (st := st) hd
    have := h2 x (List.mem_filter.1 hx).1
    rw [if_neg (by rw [he]; show ¬ x.day ≤ e.day; omega)]
theorem turnsL_sorted (L : List Ev) (tr : Int) : Sorted (turnsL L tr) := (sortL_spec _).1
theorem rate_fold (r0 st tr day : Int) (L : List Ev) (h : ∀ x ∈ L, st ≤ x.day) : ∀ n, n ≤ L.length → (L.take n).foldl (rateStep tr day) (r0, st) = lastR r0 st (upTo day (turnsL (L.take n) tr))
  | 0, _ => rfl
  | n + 1, hn => by
    have ih := rate_fold r0 st tr day L h n (by omega)
    have hx : L[n]? = some L[n] := List.getElem?_eq_getElem (by omega)
    have hst := h L[n] (List.getElem_mem (by omega))
    have htk : L.take (n + 1) = L.take n ++ [L[n]] := by rw [List.take_add_one, hx]; rfl
    rw [htk, List.foldl_append, ih]
    simp only [List.foldl_cons, List.foldl_nil]
    unfold turnsL at ih ⊢
    rw [List.filter_append]
    obtain ⟨e, he⟩ : ∃ e, L[n] = e := ⟨_, rfl⟩
    rw [he] at hst ⊢
    by_cases hq : rateQ tr e = true
    · have hf : [e].filter (rateQ tr) = [e] := by simp [hq]
      rw [hf, sortL_snoc]
      have hq2 : e.kind = 6 ∧ e.tranche = tr := by simpa [rateQ] using hq
      by_cases hd : e.day ≤ day
      · rw [lastR_put (sortL_spec _).1 hd hst]
        unfold rateStep
        simp only [hq2.1, hq2.2, hd, true_and]
      · rw [upTo_put_no hd]
        unfold rateStep
        rw [if_neg (fun h => hd h.2.2.1)]
    · have hf : [e].filter (rateQ tr) = [] := by simp [hq]
      rw [hf, List.append_nil]
      unfold rateStep
      rw [if_neg (fun h => hq (by simp [rateQ, h.1, h.2.1]))]
/-- The rate behind the first so many changes. -/
def rrAt (r0 : Int) (T : List Ev) (k : Nat) : Int := (lastR r0 0 (T.take k)).1
theorem rrAt_zero (r0 : Int) (T : List Ev) : rrAt r0 T 0 = r0 := rfl
theorem rrAt_succ (r0 : Int) {T : List Ev} {k : Nat} {x : Ev} (h : T[k]? = some x) : rrAt r0 T (k + 1) = x.amount := by
  have htk : T.take (k + 1) = T.take k ++ [x] := by rw [List.take_add_one, h]; rfl
  unfold rrAt
  rw [htk, lastR_snoc]
theorem upTo_take {T : List Ev} (hs : Sorted T) {day : Int} {k : Nat} (h1 : ∀ j x, j < k → T[j]? = some x → x.day ≤ day) (h2 : ∀ x, T[k]? = some x → day < x.day) : upTo day T = T.take k := by
  have hT : T = T.take k ++ T.drop k := (List.take_append_drop k T).symm
  have e1 : upTo day (T.take k) = T.take k := List.filter_eq_self.2 fun x hx => by
    obtain ⟨i, hi, he⟩ := List.getElem_of_mem hx
    rw [List.length_take] at hi
    rw [List.getElem_take] at he
    have := h1 i x (by omega) (by rw [List.getElem?_eq_getElem (by omega), he])
    simp [this]
  have e2 : upTo day (T.drop k) = [] := List.filter_eq_nil_iff.2 fun x hx => by
    obtain ⟨i, hi, he⟩ := List.getElem_of_mem hx
    rw [List.length_drop] at hi
    rw [List.getElem_drop] at he
    have h3 := h2 T[k] (List.getElem?_eq_getElem (by omega))
    have h4 := hs.upto.le (s := k) (t := k + i) (Nat.zero_le _) (by omega) (by omega)
    rw [dy_of (List.getElem?_eq_getElem (show k < T.length by omega)), dy_of (List.getElem?_eq_getElem (show k + i < T.length by omega)), he] at h4
    simp; omega
  conv => lhs; rw [hT, upTo_app, e1, e2, List.append_nil]
theorem rate_walk {r0 st tr day : Int} {L : List Ev} (h : ∀ x ∈ L, st ≤ x.day) {k : Nat} (h1 : ∀ j x, j < k → (turnsL L tr)[j]? = some x → x.day ≤ day) (h2 : ∀ x, (turnsL L tr)[k]? = some x → day < x.day) : rateAt r0 st L tr day = rrAt r0 (turnsL L tr) k := by
  have := rate_fold r0 st tr day L h L.length (Nat.le_refl _)
  rw [List.take_length] at this
  unfold rateAt rrAt
  rw [this, upTo_take (turnsL_sorted L tr) h1 h2]
  unfold lastR
  rcases ((turnsL L tr).take k).getLast? with _ | x <;> rfl
/-- The rates of so many days from a day on. -/
def daysL (r0 st : Int) (L : List Ev) (tr fr : Int) (n : Nat) : List Int := (List.range n).map fun j : Nat => rateAt r0 st L tr (fr + j)
theorem daysL_length (r0 st : Int) (L : List Ev) (tr fr : Int) (n : Nat) : (daysL r0 st L tr fr n).length = n := by simp [daysL]
theorem daysL_snoc (r0 st : Int) (L : List Ev) (tr fr : Int) (n : Nat) : daysL r0 st L tr fr (n + 1) = daysL r0 st L tr fr n ++ [rateAt r0 st L tr (fr + n)] := by simp [daysL, List.range_succ]
theorem daysL_get (r0 st : Int) (L : List Ev) (tr fr : Int) {n j : Nat} (h : j < n) : (daysL r0 st L tr fr n)[j]? = some (rateAt r0 st L tr (fr + j)) := by simp [daysL, h]
/-- The first wrong one of events. -/
def evsErr (t : Tm) : List Ev → Int
  | [] => 0
  | e :: L => if evErr t e = 0 then evsErr t L else evErr t e
theorem evsErr_ok {t : Tm} : ∀ {L : List Ev}, evsErr t L = 0 → ∀ x ∈ L, evErr t x = 0
  | [], _, x, hx => by simp at hx
  | e :: L, h, x, hx => by
    unfold evsErr at h
    by_cases h0 : evErr t e = 0
    · rw [if_pos h0] at h
      rcases List.mem_cons.1 hx with rfl | hx
      · exact h0
      · exact evsErr_ok h x hx
    · rw [if_neg h0] at h; exact absurd h h0
theorem evsErr_at {t : Tm} : ∀ {L : List Ev} {i : Nat} {x : Ev}, (∀ j y, j < i → L[j]? = some y → evErr t y = 0) → L[i]? = some x → ¬ evErr t x = 0 → evsErr t L = evErr t x
  | [], i, x, _, hx, _ => by simp at hx
  | e :: L, 0, x, _, hx, hn => by simp at hx; subst hx; unfold evsErr; rw [if_neg hn]
  | e :: L, i + 1, x, h, hx, hn => by
    unfold evsErr
    rw [if_pos (h 0 e (Nat.succ_pos _) rfl)]
    exact evsErr_at (fun j y hj hy => h (j + 1) y (Nat.succ_lt_succ hj) (by simpa using hy)) (by simpa using hx) hn
theorem evsErr_all {t : Tm} {L : List Ev} (h : ∀ x ∈ L, evErr t x = 0) : evsErr t L = 0 := by
  induction L with
  | nil => rfl
  | cons e L ih => unfold evsErr; rw [if_pos (h e (List.mem_cons_self ..))]; exact ih fun x hx => h x (List.mem_cons_of_mem _ hx)
def rightErr (t : Tm) (L : List Ev) : Int := if t.err = 0 then evsErr t L else 6
def trErr (t : Tm) (L : List Ev) (tr : Int) : Int := if rightErr t L = 0 then (if tr < 1 ∨ (t.trs.length : Int) < tr then 7 else 0) else rightErr t L
def daysErr (t : Tm) (L : List Ev) (tr fr te : Int) : Int :=
  if trErr t L tr = 0 then (if fr < t.start ∨ 2932896 < fr ∨ te < t.start ∨ 2932896 < te then 10 else if te < fr ∨ 40000 ≤ te - fr then 1 else 0) else trErr t L tr
/-- A tranche's rate ahead of all changes. -/
def Tm.rate0 (t : Tm) (tr : Int) : Int := match t.trs[(tr - 1).toNat]? with | some x => x.rate | none => 0
def daysOf (t : Tm) (L : List Ev) (tr fr te : Int) : List Int := if daysErr t L tr fr te = 0 then daysL (t.rate0 tr) t.start L tr fr (te - fr + 1).toNat else []
theorem evErr_day {t : Tm} {e : Ev} (h : evErr t e = 0) : t.start ≤ e.day ∧ e.day ≤ 2932896 := by
  unfold evErr at h
  split at h
  · cases h
  · split at h
    · cases h
    · split at h
      · cases h
      · split at h
        · cases h
        · split at h
          · cases h
          · omega
theorem evErr_tm {t : Tm} {e : Ev} (h : evErr t e = 0) : t.err = 0 := by
  unfold evErr at h
  split at h
  · cases h
  · rename_i h0; omega
end Go.Proofs.Ytelhlbplbkglkaa
