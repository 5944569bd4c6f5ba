/- DatedNil: what a nil list answers. -/
import Derived.Test.YtelhlbplbkglkaaDated6
import Derived.Test.YtelhlbplbkglkaaOpenEv
namespace Go.Proofs.Ytelhlbplbkglkaa
open Go.RowKit
set_option maxRecDepth 100000 in
set_option maxHeartbeats 800000 in
theorem datedNil_walk (w : World) (x : Ev) (_ : x.wf) (d : Int) (_ : (Lit.int .i64 d).wf = true) : Calls Try.prog 5 #[x.agg, .int .i64 d] w fun e w' => e = .returned (.bool true) ∧ Below w.heap.size w w' := by
  have hadd := datAdd_nil x
  obtain ⟨x0, x1, x2, x3, x4⟩ := x
  simp only [Ev.agg] at hadd ⊢
  have Hadd := Lib.hid hadd; clear hadd
  go_enter Try.func5, Try.ntmps5
  go_wp2_with (go_at_call 12; (with_reducible refine (awake17_any _).mono ?_); rintro e w1 ⟨rfl, hk1⟩; have Hk1 := Lib.hid hk1; have Hb := Lib.hid (box_new hk1 (by simp)); clear hk1; have c := fun j => cell_of_cells Hb.out j; refine haltW ?_)
  refine Lib.hid ?_
  have c0 := c 0; have c1 := c 1; have c2 := c 2; have c3 := c 3; have c4 := c 4
  clear c
  go_wp2_with (go_at_call 13; (with_reducible refine (Hadd.out _).mono ?_); rintro e w2 ⟨rfl, hk2⟩; have Hk2 := Lib.hid hk2; clear hk2; refine haltW ?_)
  refine Lib.hid ?_
  go_wp2_with (go_at_call 14; (with_reducible refine (datAll_nil _).mono ?_); rintro e w3 ⟨rfl, hk3⟩; have Hk3 := Lib.hid hk3; clear hk3; refine haltW ?_)
  refine Lib.hid ?_
  go_wp2_with (go_at_call 15; (with_reducible refine (datOn_nil _ _).mono ?_); rintro e w4 ⟨rfl, hk4⟩; have Hk4 := Lib.hid hk4; clear hk4; refine haltW ?_)
  refine Lib.hid ?_
  go_wp2_with (go_at_call 16; (with_reducible refine (datFrom_nil _ _).mono ?_); rintro e w5 ⟨rfl, hk5⟩; have Hk5 := Lib.hid hk5; clear hk5; refine haltW ?_)
  refine Lib.hid ?_
  go_wp2_with (first | (go_at_call 21; (with_reducible refine (datLen_nil _).mono ?_); rintro e w6 ⟨rfl, rfl⟩) | (go_at_call 19; (with_reducible refine (datFork_nil _).mono ?_); rintro e w7 ⟨rfl, rfl⟩))
  go_ret
  exact ⟨rfl, (((((Keeps.alloc (S := fun _ => False) w _).nt Hk1.out).nt Hk2.out).nt (Hk3.out.nt Hk4.out)).nt Hk5.out).below (by simp) (Nat.le_refl _)⟩
end Go.Proofs.Ytelhlbplbkglkaa
