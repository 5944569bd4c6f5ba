/- AdjustOnto, plain: the statements of the steps. -/
import Derived.Test.YthokcmbgamanbaaAdj12
namespace Go.Proofs.Ythokcmbgamanbaa
theorem atV_small (L : List Int) (k : Nat) : small (atV L k) := by have := atV_bd L k; exact ⟨this.1, by omega⟩
theorem pageLn_small (L : List Int) (k : Nat) : (pageLn L k).small := ⟨atV_small _ _, atV_small _ _⟩
theorem moneyB_small {v : Int} (h : small v) : moneyB v = true := by
  have hm : ∀ x, moneyB x = decide (0 ≤ x ∧ x ≤ 1000000000000000) := fun _ => rfl
  rw [hm]; exact decide_eq_true h
theorem pageOf_alike (N i j : Nat) (L M : List Int) : alikeB (pageOf N i L) (pageOf N j M) = true := by simp [alikeB, pageOf]
theorem pageOf_numbers (N i : Nat) (L : List Int) : (pageOf N i L).numbersB = true := by
  unfold Stm.numbersB
  simp only [Bool.and_eq_true, List.all_eq_true]
  refine ⟨fun x hx => ?_, ?_⟩
  · simp only [pageOf, List.mem_map] at hx
    obtain ⟨k, _, rfl⟩ := hx
    simp [Ln.numsB, allMoney, pageLn, moneyB_small (atV_small _ _)]
  · simp [allMoney, pageOf, moneyB_small (atV_small _ _)]
theorem pageOf_ontos (seq : Int) (N i j : Nat) (L M : List Int) : (pageOf N i L).ontos (oneAdj seq (pageOf N i L) (pageOf N j M)) = (0, pageOf N j M) := by
  refine ontos_one seq _ _ rfl rfl rfl rfl (by simp [pageOf]) ?_ ?_ ?_ (atV_small _ _) (atV_small _ _) (atV_small _ _) (atV_small _ _) (atV_small _ _) (atV_small _ _)
  · intro x hx
    simp only [pageOf, List.mem_map] at hx
    obtain ⟨k, _, rfl⟩ := hx
    exact pageLn_small _ _
  · intro x hx
    simp only [pageOf, List.mem_map] at hx
    obtain ⟨k, _, rfl⟩ := hx
    exact pageLn_small _ _
  · intro k x y hx hy
    have e1 := List.mem_of_getElem? hx
    have e2 := List.mem_of_getElem? hy
    simp only [pageOf, List.mem_map] at e1 e2
    obtain ⟨_, _, rfl⟩ := e1
    obtain ⟨_, _, rfl⟩ := e2
    rfl
theorem betRec_one (seq : Int) (x y : SV) (hx : x.s.numbersB = true) (hy : y.s.numbersB = true) : betRec seq [x] [y] [] = (0, oneAdj seq x.s y.s) := by
  simp [betRec, hx, hy]
/-- What lies between two statements that stand side by side. -/
theorem betw_side (seq : Int) (N i j : Nat) (x y : SV) (L M : List Int) (hx : x.s = pageOf N i L) (hy : y.s = pageOf N j M) : Betw seq [x] [y] (0, oneAdj seq x.s y.s) := by
  refine .inl ⟨alike_one (by rw [hx, hy]; exact pageOf_alike _ _ _ _ _), ?_⟩
  rw [betRec_one _ _ _ (by rw [hx]; exact pageOf_numbers _ _ _) (by rw [hy]; exact pageOf_numbers _ _ _)]
theorem onto_step {s : Stm} {A : List Adj} {seq : Int} {N i j : Nat} {x y : SV} {L M : List Int} (hA : s.ontos A = (0, x.s)) (hx : x.s = pageOf N i L) (hy : y.s = pageOf N j M) : s.ontos (A ++ oneAdj seq x.s y.s) = (0, y.s) := by
  rw [ontos_append _ _ _ (by rw [hA]), hA]
  show x.s.ontos _ = _
  rw [hx, hy]
  exact pageOf_ontos _ _ _ _ _ _
/-- Nothing lies between a statement and itself. -/
theorem linesAdj_self (seq cy : Int) (X : List Ln) : ∀ k, linesAdj seq cy X X k = []
  | 0 => rfl
  | k + 1 => by
    simp only [linesAdj, linesAdj_self seq cy X k, List.nil_append]
    split
    · rename_i h1 h2
      rw [h1] at h2
      simp only [Option.some.injEq] at h2
      subst h2
      simp [lineAdj]
    · rfl
theorem oneAdj_self (seq : Int) (s : Stm) : oneAdj seq s s = [] := by
  unfold oneAdj
  rw [linesAdj_self, if_pos (by simp [wholeSame])]
  rfl
end Go.Proofs.Ythokcmbgamanbaa
