/-
  DisputeCounts: for every input the law returns true, and each argument reads behind the call as it read before. No condition.
-/
import Derived.Test.YtmiafnndoioddaaOpen
import Derived.Test.YtmiafnndoioddaaDisputeCounts
namespace Go.Proofs.Ytmiafnndoioddaa.disputeCounts
open Go.ChangeShapes Go.WideShapes Go.ChangeAt Go.RowKit Go.Deep
set_option maxRecDepth 100000 in
theorem lifted (os : Os) (started : os.Started) (H : Type) (enc : TypeId × Value → H) :
    ReturnsInHanded {} Try.checked os 4 .any (Rows.disputeCountsSpec.pre6 enc Try.prog Try.f4 Rows.disputeCountsRow.domain false) (Rows.disputeCountsSpec.post enc Try.prog Try.f4 false true false false) := by
  refine returnsInHanded_of_change (C := Try.checked) own started (by kernel_rfl) Try.func4
    (ChangeSpec.witness6 (enc := enc) (C := Try.checked) false ⟨#[], #[.slice none 0 0], []⟩ 8 (by kernel_rfl) (by kernel_rfl) (by kernel_rfl) (by kernel_rfl)) ?_
  intro W base args ds gs before hval0 hW hcnd _
  have hval : ∀ (j : Nat) t v, Try.f4.params[j]? = some t → args[j]? = some v → Value.okWide Try.prog W .any base t v := hval0
  have hW' := hW
  obtain ⟨p, q, hA0, hV, rfl, hfz, hnd⟩ := hW
  have hA : DataW.TrodAll enc Try.prog W 0 (fun _ => true) true Try.f4.params.toList args.toList ds p := hA0
  rw [Try.params4] at hA hval
  obtain ⟨v0, vs0, d0, ds0, p0, q0, hargs, rfl, rfl, h0, r0⟩ := trodAll_cons hA
  obtain ⟨rfl, rfl, rfl⟩ := trodAll_nil r0
  obtain rfl : args = #[v0] := by cases args; simp_all
  obtain ⟨rfl, rfl⟩ := trodVars_none hV
  obtain ⟨ad0, len0, cap0, rfl⟩ := okWide_slice Try.underlying39 (hval 0 39 v0 rfl rfl)
  have k0 := h0
  have lt0 : ∀ x ∈ p0, x.block < W.heap.size := by obtain ⟨m, hm⟩ := k0; exact DataW.trod_lt m _ _ _ hm
  obtain ⟨L0, e0, hr0, hp0, hm0⟩ : ∃ L : List Bool, L.length = len0 ∧ Reads W 1 (.slice ad0 len0 cap0) L.length (L.flatMap (fun b : Bool => [Value.bool b])) ∧ (∀ a ∈ L, True) ∧ L.length ≤ maxLen := by
    obtain ⟨fuel, hf⟩ := h0
    exact open_reads (f := (fun b : Bool => [Value.bool b])) (size := 1) (fun _ => rfl) (by decide) Try.underlying39 (by kernel_rfl) (fun n cs d hd => elem_bool Try.underlying4 n cs d hd) hf
  subst e0
  clear hA0 hval0
  refine (disputeCounts_walk W ad0 cap0 L0 hr0 hp0 hm0).mono fun e W' ⟨he, bel⟩ => ?_
  subst he
  exact ⟨_, rfl, _, _, _, [], _, [], hW', trodAll_mk1 (shut_bool Try.underlying4 _), (trodAll_cons_mk (Below.trod laidOut (by kernel_rfl) (of_decide_eq_true (by kernel_rfl)) k0 bel lt0) trodAll_mk0), rfl, bel.frame _, fun h => by cases h⟩
theorem over : Rows.disputeCountsRow.holds Try.pinned (OpenSpec.ofChange Rows.disputeCountsSpec) :=
  OpenClaim.holds_of_wide 4 Try.f4 rfl rfl rfl rfl rfl rfl rfl ⟨rfl, rfl, rfl, rfl, rfl⟩ rfl rfl rfl rfl rfl (by kernel_rfl) Try.func4 (by kernel_rfl)
    (of_decide_eq_true (by kernel_rfl)) (by unfold Func.isWrapper; first | (rw [if_pos (by decide +kernel)]; kernel_rfl) | (rw [if_neg (by decide +kernel)]; exact ⟨rfl, rfl⟩))
    (fun os started H enc _ => lifted os started H enc)
theorem proved : Rows.DisputeCountsSaid := over
#print axioms proved
end Go.Proofs.Ytmiafnndoioddaa.disputeCounts
