/- The walks of the library's stable sort at events: SortStableFunc itself; dated.Sort. -/
import Derived.Test.YtelhlbplbkglkaaSrt6
import Derived.Test.YtelhlbplbkglkaaSrtPl3
namespace Go.Proofs.Ytelhlbplbkglkaa
open Go.RowKit
set_option maxRecDepth 100000 in
set_option maxHeartbeats 800000 in
theorem inssEv_none (fv v : Value) (w : World) : Calls Try.prog 67 #[v, .int .i64 0, .int .i64 0, fv] w fun e w' => e = .returned (.tuple #[]) ∧ Keeps (fun _ => False) w w' := by
  go_enter Try.func67, Try.ntmps67
  go_wp2
  refine wp_loop_rounds 1 ?_
  rw [rounds_succ]
  go_wp2
  go_end0
  exact ⟨rfl, Keeps.refl _ _⟩
set_option maxRecDepth 100000 in
set_option maxHeartbeats 800000 in
theorem stableEv_none (fv v : Value) (w : World) : Calls Try.prog 62 #[v, .int .i64 0, fv] w fun e w' => e = .returned (.tuple #[]) ∧ Keeps (fun _ => False) w w' := by
  go_enter Try.func62, Try.ntmps62
  go_wp2
  refine wp_loop_rounds 1 ?_
  rw [rounds_succ]
  go_wp2_with (go_at_call 67; (with_reducible refine (inssEv_none _ _ _).mono ?_); rintro e w1 ⟨rfl, hk1⟩; have Hk1 := Lib.hid hk1; clear hk1)
  refine wp_loop_rounds 1 ?_
  rw [rounds_succ]
  go_wp2
  go_end0
  exact ⟨rfl, Hk1.out⟩
set_option maxRecDepth 100000 in
set_option maxHeartbeats 800000 in
/-- What is sorted: the same row, each day's events in the order in which they stood. -/
theorem sortEv_any (f : Nat) (ok : Ev → Prop) (hc : CmpBy f ok) (v : Value) (L : List Ev) (w : World) (h : w.ownsRow 0 34 5 v L.length (L.flatMap Ev.cells)) (hok : ∀ x ∈ L, ok x) (hn : L.length ≤ 1000000) :
    Calls Try.prog 47 #[v, .func (.func f) #[] #[]] w fun e w' => e = .returned (.tuple #[]) ∧ w'.ownsRow 0 34 5 v L.length ((sortL L).flatMap Ev.cells) ∧ Keeps (fun i => v.ownBlock = some i) w w' := by
  obtain ⟨ad, cap, rfl, _, hnone⟩ := ownsRow_shape h
  rcases Nat.eq_zero_or_pos L.length with h0 | h0
  · obtain rfl : L = [] := List.length_eq_zero_iff.1 h0
    simp only [List.length_nil] at h ⊢
    have H := Lib.hid h; clear h; have Hc := Lib.hid hc; clear hc; have Hok := Lib.hid hok; clear hok; have Hnone := Lib.hid hnone; clear hnone
    go_enter Try.func47, Try.ntmps47
    go_wp2_with (go_at_call 62; (with_reducible refine (stableEv_none _ _ _).mono ?_); rintro e w1 ⟨rfl, hk1⟩; have Hk1 := Lib.hid hk1; clear hk1)
    go_end0
    exact ⟨rfl, H.out.of_keeps Hk1.out, Hk1.out.mono (by simp)⟩
  · obtain ⟨g, c2, he, hg⟩ := owns_some h h0
    simp only [Value.slice.injEq, true_and] at he
    obtain ⟨rfl, rfl⟩ := he
    have hst := stableEv_any f ok hc L.length cap g L w ⟨h, rfl⟩ hok hn
    obtain ⟨n, hln⟩ : ∃ n, L.length = n := ⟨_, rfl⟩
    rw [hln] at hst hn ⊢
    have H := Lib.hid h; clear h; have Hc := Lib.hid hc; clear hc; have Hok := Lib.hid hok; clear hok; have Hnone := Lib.hid hnone; clear hnone; have Hst := Lib.hid hst; clear hst; have Hln := Lib.hid hln; clear hln
    go_enter Try.func47, Try.ntmps47
    go_wp2_with (go_at_call 62; (with_reducible refine Hst.out.mono ?_); rintro e w1 ⟨rfl, X, ht, hu, hrow, hk1⟩; have HT := Lib.hid ht; have HU := Lib.hid hu; have Hrow := Lib.hid hrow; have Hk1 := Lib.hid hk1; clear hk1 ht hu hrow)
    go_end0
    have he := sortL_one (X := X) (L := L) (Upto.pair (by rw [HT.out.len, Hln.out]; exact HU.out)) HT.out.alike
    rw [← he]
    exact ⟨rfl, Hrow.out.1, Hk1.out.mono fun i _ e => by rw [e]; rfl⟩
end Go.Proofs.Ytelhlbplbkglkaa
