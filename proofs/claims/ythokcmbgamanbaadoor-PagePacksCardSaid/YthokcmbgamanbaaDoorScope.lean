/- Scopes with two labels: both jumped to ahead; or jumped back to, with a measure. -/
import Derived.Test.YthokcmbgamanbaaDoorKit4
namespace Go.Proofs.YthokcmbgamanbaaDoor
open Go.RowKit
def Exit.jump2 (l1 : Nat) (J1 : Act → World → Prop) (l2 : Nat) (J2 : Act → World → Prop) (Q : Exit → Act → World → Prop) : Exit → Act → World → Prop
  | .goto l', a, w => (l' = l1 ∧ J1 a w) ∨ (l' = l2 ∧ J2 a w)
  | e, a, w => Q e a w
theorem jump2_1 {l1 l2 : Nat} {J1 J2 : Act → World → Prop} {Q : Exit → Act → World → Prop} {a : Act} {w : World} (h : J1 a w) : Exit.jump2 l1 J1 l2 J2 Q (.goto l1) a w := .inl ⟨rfl, h⟩
theorem jump2_2 {l1 l2 : Nat} {J1 J2 : Act → World → Prop} {Q : Exit → Act → World → Prop} {a : Act} {w : World} (h : J2 a w) : Exit.jump2 l1 J1 l2 J2 Q (.goto l2) a w := .inr ⟨rfl, h⟩
theorem jump2_ret {l1 l2 : Nat} {J1 J2 : Act → World → Prop} {Q : Exit → Act → World → Prop} {a : Act} {w : World} (h : Q .ret a w) : Exit.jump2 l1 J1 l2 J2 Q .ret a w := h
/-- A scope whose jumps all lead ahead, to two labels: what stands behind a label is walked at each jump. -/
theorem wp_scope_ahead2 {P : Program} {a : Act} {w : World} {Q : Exit → Act → World → Prop} {c rest1 rest2 : Code} (l1 l2 : Nat) (hf1 : findLabel c l1 = some rest1) (hf2 : findLabel c l2 = some rest2)
    (h : c.wp P (Exit.jump2 l1 (fun a' w' => rest1.wp P (Exit.noGoto Q) a' w') l2 (fun a' w' => rest2.wp P (Exit.noGoto Q) a' w') Q) a w) : (Code.scope c).wp P Q a w := by
  intro b k cs
  have key : ∀ (rest : Code) (a : Act) (w : World), rest.wp P (Exit.noGoto Q) a w → ∃ e a' w', Q e a' w' ∧ Arrives P (lone (b.at a (.code rest :: .inScope c :: k)) cs w) b k cs e a' w' := by
    intro rest a w hJ
    obtain ⟨e, a₁, w₁, hq, harr⟩ := hJ b (.inScope c :: k) cs
    cases e with
    | normal => exact ⟨.normal, a₁, w₁, hq, Steps.trans harr (.one step_inScope)⟩
    | exit id => exact ⟨.exit id, a₁, w₁, hq, fun k' hk => harr k' (by simp [exitTo, hk])⟩
    | goto l' => exact hq.elim
    | ret => exact ⟨_, a₁, w₁, hq, harr⟩
    | panic ch => exact ⟨_, a₁, w₁, hq, harr⟩
    | outgrown => exact ⟨_, a₁, w₁, hq, harr⟩
  obtain ⟨e, a₁, w₁, hq, harr⟩ := h b (.inScope c :: k) cs
  cases e with
  | normal => exact ⟨.normal, a₁, w₁, hq, .head step_scope (Steps.trans harr (.one step_inScope))⟩
  | exit id => exact ⟨.exit id, a₁, w₁, hq, fun k' hk => .head step_scope (harr k' (by simp [exitTo, hk]))⟩
  | goto l' =>
    rcases hq with ⟨rfl, hJ'⟩ | ⟨rfl, hJ'⟩
    · obtain ⟨e₂, a₂, w₂, hq₂, harr₂⟩ := key _ a₁ w₁ hJ'
      exact ⟨e₂, a₂, w₂, hq₂, .of_steps (.head step_scope (harr _ (by simp [gotoIn, hf1]))) harr₂⟩
    · obtain ⟨e₂, a₂, w₂, hq₂, harr₂⟩ := key _ a₁ w₁ hJ'
      exact ⟨e₂, a₂, w₂, hq₂, .of_steps (.head step_scope (harr _ (by simp [gotoIn, hf2]))) harr₂⟩
  | ret => exact ⟨_, a₁, w₁, hq, .of_steps (.one step_scope) harr⟩
  | panic ch => exact ⟨_, a₁, w₁, hq, .of_steps (.one step_scope) harr⟩
  | outgrown => exact ⟨_, a₁, w₁, hq, .of_steps (.one step_scope) harr⟩
/-- Two labels, each with what holds at a jump, and a measure that every pass lowers. -/
theorem wp_scope_two {P : Program} {a : Act} {w : World} {Q : Exit → Act → World → Prop} {c rest1 rest2 : Code} (l1 l2 : Nat) (J1 J2 : Act → World → Prop) (M1 M2 : Act → World → Nat) (hf1 : findLabel c l1 = some rest1) (hf2 : findLabel c l2 = some rest2)
    (pass1 : ∀ a w, J1 a w → rest1.wp P (Exit.jump2 l1 (fun a' w' => J1 a' w' ∧ M1 a' w' < M1 a w) l2 (fun a' w' => J2 a' w' ∧ M2 a' w' < M1 a w) Q) a w)
    (pass2 : ∀ a w, J2 a w → rest2.wp P (Exit.jump2 l1 (fun a' w' => J1 a' w' ∧ M1 a' w' < M2 a w) l2 (fun a' w' => J2 a' w' ∧ M2 a' w' < M2 a w) Q) a w)
    (first : c.wp P (Exit.jump2 l1 J1 l2 J2 Q) a w) : (Code.scope c).wp P Q a w := by
  intro b k cs
  have hg1 : gotoIn l1 (.inScope c :: k) = some (.code rest1 :: .inScope c :: k) := by simp [gotoIn, hf1]
  have hg2 : gotoIn l2 (.inScope c :: k) = some (.code rest2 :: .inScope c :: k) := by simp [gotoIn, hf2]
  have key : ∀ n, (∀ a w, M1 a w = n → J1 a w → ∃ e a' w', Q e a' w' ∧ Arrives P (lone (b.at a (.code rest1 :: .inScope c :: k)) cs w) b k cs e a' w') ∧ (∀ a w, M2 a w = n → J2 a w → ∃ e a' w', Q e a' w' ∧ Arrives P (lone (b.at a (.code rest2 :: .inScope c :: k)) cs w) b k cs e a' w') := by
    intro n
    induction n using Nat.strongRecOn with
    | _ n ih =>
      refine ⟨fun a w hn hJ => ?_, fun a w hn hJ => ?_⟩
      · obtain ⟨e, a₁, w₁, hq, harr⟩ := pass1 a w hJ b (.inScope c :: k) cs
        cases e with
        | normal => exact ⟨.normal, a₁, w₁, hq, Steps.trans harr (.one step_inScope)⟩
        | exit id => exact ⟨.exit id, a₁, w₁, hq, fun k' hk => harr k' (by simp [exitTo, hk])⟩
        | goto l' =>
          rcases hq with ⟨rfl, hJ', hlt⟩ | ⟨rfl, hJ', hlt⟩
          · obtain ⟨e₂, a₂, w₂, hq₂, harr₂⟩ := (ih _ (by omega)).1 a₁ w₁ rfl hJ'
            exact ⟨e₂, a₂, w₂, hq₂, .of_steps (harr _ hg1) harr₂⟩
          · obtain ⟨e₂, a₂, w₂, hq₂, harr₂⟩ := (ih _ (by omega)).2 a₁ w₁ rfl hJ'
            exact ⟨e₂, a₂, w₂, hq₂, .of_steps (harr _ hg2) harr₂⟩
        | ret => exact ⟨_, a₁, w₁, hq, harr⟩
        | panic ch => exact ⟨_, a₁, w₁, hq, harr⟩
        | outgrown => exact ⟨_, a₁, w₁, hq, harr⟩
      · obtain ⟨e, a₁, w₁, hq, harr⟩ := pass2 a w hJ b (.inScope c :: k) cs
        cases e with
        | normal => exact ⟨.normal, a₁, w₁, hq, Steps.trans harr (.one step_inScope)⟩
        | exit id => exact ⟨.exit id, a₁, w₁, hq, fun k' hk => harr k' (by simp [exitTo, hk])⟩
        | goto l' =>
          rcases hq with ⟨rfl, hJ', hlt⟩ | ⟨rfl, hJ', hlt⟩
          · obtain ⟨e₂, a₂, w₂, hq₂, harr₂⟩ := (ih _ (by omega)).1 a₁ w₁ rfl hJ'
            exact ⟨e₂, a₂, w₂, hq₂, .of_steps (harr _ hg1) harr₂⟩
          · obtain ⟨e₂, a₂, w₂, hq₂, harr₂⟩ := (ih _ (by omega)).2 a₁ w₁ rfl hJ'
            exact ⟨e₂, a₂, w₂, hq₂, .of_steps (harr _ hg2) harr₂⟩
        | ret => exact ⟨_, a₁, w₁, hq, harr⟩
        | panic ch => exact ⟨_, a₁, w₁, hq, harr⟩
        | outgrown => exact ⟨_, a₁, w₁, hq, harr⟩
  obtain ⟨e, a₁, w₁, hq, harr⟩ := first b (.inScope c :: k) cs
  cases e with
  | normal => exact ⟨.normal, a₁, w₁, hq, .head step_scope (Steps.trans harr (.one step_inScope))⟩
  | exit id => exact ⟨.exit id, a₁, w₁, hq, fun k' hk => .head step_scope (harr k' (by simp [exitTo, hk]))⟩
  | goto l' =>
    rcases hq with ⟨rfl, hJ'⟩ | ⟨rfl, hJ'⟩
    · obtain ⟨e₂, a₂, w₂, hq₂, harr₂⟩ := (key _).1 a₁ w₁ rfl hJ'
      exact ⟨e₂, a₂, w₂, hq₂, .of_steps (.head step_scope (harr _ hg1)) harr₂⟩
    · obtain ⟨e₂, a₂, w₂, hq₂, harr₂⟩ := (key _).2 a₁ w₁ rfl hJ'
      exact ⟨e₂, a₂, w₂, hq₂, .of_steps (.head step_scope (harr _ hg2)) harr₂⟩
  | ret => exact ⟨_, a₁, w₁, hq, .of_steps (.one step_scope) harr⟩
  | panic ch => exact ⟨_, a₁, w₁, hq, .of_steps (.one step_scope) harr⟩
  | outgrown => exact ⟨_, a₁, w₁, hq, .of_steps (.one step_scope) harr⟩
theorem wp_jump2_mono {P : Program} {c : Code} {a : Act} {w : World} {l1 l2 : Nat} {J1 J2 K1 K2 : Act → World → Prop} {Q : Exit → Act → World → Prop} (h1 : ∀ a w, J1 a w → K1 a w) (h2 : ∀ a w, J2 a w → K2 a w) (h : c.wp P (Exit.jump2 l1 J1 l2 J2 Q) a w) : c.wp P (Exit.jump2 l1 K1 l2 K2 Q) a w := by
  refine Code.wp_mono ?_ h
  intro e a' w' h
  cases e with
  | goto k => exact h.imp (fun h => ⟨h.1, h1 _ _ h.2⟩) (fun h => ⟨h.1, h2 _ _ h.2⟩)
  | _ => exact h
/-- Two labels that are fallen into and jumped back to: the second one's pass first; what stands ahead may lean on it. -/
theorem wp_scope_back2 {P : Program} {a : Act} {w : World} {Q : Exit → Act → World → Prop} {c rest1 rest2 : Code} (l1 l2 : Nat) (J1 J2 : Act → World → Prop) (M1 M2 : Act → World → Nat) (hf1 : findLabel c l1 = some (Code.skip.seq rest1)) (hf2 : findLabel c l2 = some (Code.skip.seq rest2))
    (pass2 : ∀ a w, J2 a w → rest2.wp P (Exit.jump2 l1 (fun a' w' => J1 a' w' ∧ M1 a' w' < M2 a w) l2 (fun a' w' => J2 a' w' ∧ M2 a' w' < M2 a w) Q) a w)
    (pass1 : Hid (∀ a w, J2 a w → rest2.wp P (Exit.jump2 l1 (fun a' w' => J1 a' w' ∧ M1 a' w' < M2 a w) l2 (fun a' w' => J2 a' w' ∧ M2 a' w' < M2 a w) Q) a w) → ∀ a w, J1 a w → rest1.wp P (Exit.jump2 l1 (fun a' w' => J1 a' w' ∧ M1 a' w' < M1 a w) l2 (fun a' w' => J2 a' w' ∧ M2 a' w' < M1 a w) Q) a w)
    (first : Hid (∀ a w, J1 a w → rest1.wp P (Exit.jump2 l1 J1 l2 J2 Q) a w) → c.wp P (Exit.jump2 l1 J1 l2 J2 Q) a w) : (Code.scope c).wp P Q a w := by
  have h1 := pass1 (Lib.hid pass2)
  refine wp_scope_two l1 l2 J1 J2 M1 M2 hf1 hf2 (fun a w hJ => wp_seq (wp_skip (h1 a w hJ))) (fun a w hJ => wp_seq (wp_skip (pass2 a w hJ))) (first (Lib.hid fun a w hJ => wp_jump2_mono (fun _ _ h => h.1) (fun _ _ h => h.1) (h1 a w hJ)))
end Go.Proofs.YthokcmbgamanbaaDoor
