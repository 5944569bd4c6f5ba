/- DisputeNil: what a nil book answers. -/
import Derived.Test.YtmiafnndoioddaaDispute3
namespace Go.Proofs.Ytmiafnndoioddaa
open Go.RowKit
set_option maxRecDepth 100000 in
set_option maxHeartbeats 800000 in
theorem disputeNil_walk (w : World) (r : Int) (_ : (Lit.int .i64 r).wf = true) (a : Int) (_ : (Lit.int .i64 a).wf = true) : Calls Try.prog 6 #[.int .i64 r, .int .i64 a] w fun e w' => e = .returned (.bool true) ∧ Below w.heap.size w w' := by
  go_enter Try.func6, Try.ntmps6
  go_wp2_with (go_at_call 9; refine (dispOpen_nil _ _ _ _).mono ?_; rintro e w1 ⟨rfl, rfl⟩)
  rename_i w
  go_wp2_with (go_at_call 10; refine (dispEnd_nil _ _ _).mono ?_; rintro e w2 ⟨rfl, hk2⟩; have Hk2 := Lib.hid hk2; clear hk2)
  go_wp2_with (go_at_call 11; refine (dispGet_nil _ _).mono ?_; rintro e w3 ⟨rfl, hk3⟩; have Hk3 := Lib.hid hk3; have Hb8 := Lib.hid (box_new hk3 (by simp)); clear hk3)
  go_wp2_with (go_at_call 8; refine (awake16_any _).mono ?_; rintro e w4 ⟨rfl, hk4⟩; have Hk4 := Lib.hid hk4; have Hb10 := Lib.hid (box_new hk4 (by simp)); have Hb8' := Lib.hid (box_old (box_alloc Hb8.out _) hk4 (by simp)); clear hk4; have c8 := fun j => cell_of_cells Hb8'.out j; have c10 := fun j => cell_of_cells Hb10.out j)
  go_wp2_with (go_at_call 13; refine (dispAll_nil _).mono ?_; rintro e w5 ⟨rfl, rfl⟩)
  go_wp2_with (go_at_call 12; refine (dispHeld_nil _).mono ?_; rintro e w6 ⟨rfl, rfl⟩)
  go_wp2_with (go_at_call 15; refine (dispFork_nil _).mono ?_; rintro e w7 ⟨rfl, rfl⟩)
  go_ret
  exact ⟨rfl, (((Hk2.out.trans ((Keeps.alloc _ _).trans (Hk3.out.mono (by simp)))).trans ((Keeps.alloc _ _).trans (Hk4.out.mono (by simp))))).below (by simp) (Nat.le_refl _)⟩
end Go.Proofs.Ytmiafnndoioddaa
