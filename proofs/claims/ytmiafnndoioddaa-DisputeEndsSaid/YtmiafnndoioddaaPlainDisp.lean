/- Disputes, plainly: what opening and ending make of a list of disputes. -/
import Derived.Test.YtmiafnndoioddaaGenDisp
namespace Go.Proofs.Ytmiafnndoioddaa
/-- What is held: the amounts of all that is open. -/
def heldOf : List Disp → Int
  | [] => 0
  | d :: l => (if d.state = 1 then d.amount else 0) + heldOf l
def BookOk (L : List Disp) : Prop := L.length ≤ 2000 ∧ heldOf L ≤ 1000000000000000 ∧ ∀ d ∈ L, 1 ≤ d.amount ∧ d.amount ≤ 1000000000000000
theorem heldOf_nonneg : ∀ L : List Disp, (∀ d ∈ L, 1 ≤ d.amount ∧ d.amount ≤ 1000000000000000) → 0 ≤ heldOf L
  | [], _ => Int.le_refl _
  | d :: l, h => by
    have := heldOf_nonneg l fun x hx => h x (List.mem_cons_of_mem _ hx)
    have := h d (List.mem_cons_self ..)
    unfold heldOf; split <;> omega
theorem heldOf_append (L : List Disp) (d : Disp) : heldOf (L ++ [d]) = heldOf L + (if d.state = 1 then d.amount else 0) := by
  induction L with
  | nil => simp [heldOf]
  | cons x l ih => simp only [List.cons_append, heldOf, ih]; omega
theorem heldOf_set {L : List Disp} {k : Nat} {x y : Disp} (hx : L[k]? = some x) (h1 : x.state = 1) (h2 : y.state ≠ 1) : heldOf (L.set k y) = heldOf L - x.amount := by
  induction L generalizing k with
  | nil => simp at hx
  | cons a l ih =>
    cases k with
    | zero => simp at hx; subst hx; simp [heldOf, h1, h2]; omega
    | succ k => simp at hx; simp only [List.set_cons_succ, heldOf, ih hx]; omega
theorem heldOf_ge {L : List Disp} (h : ∀ d ∈ L, 1 ≤ d.amount ∧ d.amount ≤ 1000000000000000) {k : Nat} {x : Disp} (hx : L[k]? = some x) (h1 : x.state = 1) : x.amount ≤ heldOf L := by
  induction L generalizing k with
  | nil => simp at hx
  | cons a l ih =>
    have hl : ∀ d ∈ l, 1 ≤ d.amount ∧ d.amount ≤ 1000000000000000 := fun x hx => h x (List.mem_cons_of_mem _ hx)
    have := h a (List.mem_cons_self ..)
    have := heldOf_nonneg l hl
    cases k with
    | zero => simp at hx; subst hx; simp [heldOf, h1]; omega
    | succ k => simp at hx; have := ih hl hx; unfold heldOf; split <;> omega
/-- Why a dispute may not be opened (0: it may). -/
def dOpenErr (L : List Disp) (t a : Int) : Int :=
  if t < 1 ∨ 8 < t then 7 else if a < 1 ∨ 1000000000000000 < a then 8 else if 1000000000000000 - heldOf L < a then 5 else if 2000 ≤ L.length then 14 else 0
def dOpen (L : List Disp) (t d a : Int) : List Disp := if dOpenErr L t a = 0 then L ++ [⟨L.length + 1, t, d, a, 1⟩] else L
def dOpenRef (L : List Disp) (t a : Int) : Int := if dOpenErr L t a = 0 then L.length + 1 else 0
theorem dOpen_ok {L : List Disp} (h : BookOk L) (t d a : Int) : BookOk (dOpen L t d a) := by
  unfold dOpen
  split
  · rename_i h0
    obtain ⟨h1, h2, h3⟩ := h
    unfold dOpenErr at h0
    split at h0; · simp at h0
    split at h0; · simp at h0
    split at h0; · simp at h0
    split at h0; · simp at h0
    refine ⟨by simp; omega, by rw [heldOf_append]; simp; omega, fun x hx => ?_⟩
    rcases List.mem_append.1 hx with hx | hx
    · exact h3 x hx
    · simp at hx; subst hx; simp; omega
  · exact h
/-- Why a dispute may not be ended. -/
def dEndErr (L : List Disp) (ref : Int) : Int :=
  if ref < 1 ∨ (L.length : Int) < ref then 12 else match L[(ref - 1).toNat]? with
    | some x => if x.state = 1 then 0 else 13
    | none => 12
def Disp.ended (d : Disp) (lost : Bool) : Disp := { d with state := if lost then 2 else 3 }
def Disp.zero : Disp := ⟨0, 0, 0, 0, 0⟩
def dEnded (L : List Disp) (ref : Int) (lost : Bool) : Disp := if dEndErr L ref = 0 then (L[(ref - 1).toNat]?.getD Disp.zero).ended lost else Disp.zero
def dEnd (L : List Disp) (ref : Int) (lost : Bool) : List Disp := if dEndErr L ref = 0 then L.set (ref - 1).toNat (dEnded L ref lost) else L
def dGot (L : List Disp) (ref : Int) : Disp := if ref < 1 ∨ (L.length : Int) < ref then Disp.zero else L[(ref - 1).toNat]?.getD Disp.zero
theorem dEnd_length (L : List Disp) (ref : Int) (lost : Bool) : (dEnd L ref lost).length = L.length := by unfold dEnd; split <;> simp
theorem dEndErr_zero {L : List Disp} {ref : Int} (h : dEndErr L ref = 0) : ∃ (k : Nat) (x : Disp), ref = k + 1 ∧ L[k]? = some x ∧ x.state = 1 := by
  unfold dEndErr at h
  split at h
  · simp at h
  · rename_i h1
    refine ⟨(ref - 1).toNat, ?_⟩
    rcases hx : L[(ref - 1).toNat]? with _ | x
    · rw [hx] at h; simp at h
    · rw [hx] at h
      simp only at h
      split at h
      · exact ⟨x, by omega, rfl, by assumption⟩
      · simp at h
theorem dEnd_at {L : List Disp} {k : Nat} {x : Disp} (hx : L[k]? = some x) (h1 : x.state = 1) (lost : Bool) : dEndErr L (k + 1) = 0 ∧ dEnded L (k + 1) lost = x.ended lost ∧ dEnd L (k + 1) lost = L.set k (x.ended lost) := by
  have hk : k < L.length := by
    rcases Nat.lt_or_ge k L.length with h' | h'
    · exact h'
    · simp [List.getElem?_eq_none h'] at hx
  have e1 : ((k : Int) + 1 - 1).toNat = k := by omega
  have h0 : dEndErr L (k + 1) = 0 := by
    unfold dEndErr
    rw [if_neg (by omega), e1, hx]
    simp [h1]
  have h2 : dEnded L (k + 1) lost = x.ended lost := by unfold dEnded; rw [if_pos h0, e1, hx]; rfl
  exact ⟨h0, h2, by unfold dEnd; rw [if_pos h0, h2, e1]⟩
theorem dEnd_ok {L : List Disp} (h : BookOk L) (ref : Int) (lost : Bool) : BookOk (dEnd L ref lost) := by
  by_cases h0 : dEndErr L ref = 0
  · obtain ⟨k, x, rfl, hx, h1⟩ := dEndErr_zero h0
    rw [(dEnd_at hx h1 lost).2.2]
    obtain ⟨a, b, c⟩ := h
    have hxm := c x (List.mem_of_getElem? hx)
    refine ⟨by simpa using a, ?_, fun y hy => ?_⟩
    · rw [heldOf_set hx h1 (by unfold Disp.ended; cases lost <;> simp)]; omega
    · rcases List.mem_or_eq_of_mem_set hy with hy | hy
      · exact c y hy
      · subst hy; exact hxm
  · unfold dEnd; rw [if_neg h0]; exact h
end Go.Proofs.Ytmiafnndoioddaa
