/- The walks of the dated layer: Sort. -/
import Derived.Test.YtelhlbplbkglkaaSrt7
import Derived.Test.YtelhlbplbkglkaaDated
namespace Go.Proofs.Ytelhlbplbkglkaa
open Go.RowKit
set_option maxRecDepth 100000 in
set_option maxHeartbeats 800000 in
theorem datSort1_any (x y : Ev) (w : World) : Calls Try.prog 48 #[x.agg, y.agg] w fun e w' => ∃ z, e = .returned (.int .i64 z) ∧ (z < 0 ↔ x.day < y.day) ∧ Keeps (fun _ => False) w w' := by
  obtain ⟨x0, x1, x2, x3, x4⟩ := x
  obtain ⟨y0, y1, y2, y3, y4⟩ := y
  simp only [Ev.agg]
  by_cases h : x1 < y1
  · go_enter Try.func48, Try.ntmps48
    go_wp2
    go_ret
    exact ⟨_, rfl, by simp; exact h, by (repeat (first | exact Keeps.refl _ _ | exact Keeps.alloc _ _ | exact Keeps.drew _ | exact Keeps.drewN _ _ | refine Keeps.trans_drew ?_ | refine Keeps.trans_drewN ?_ | refine Keeps.trans_alloc ?_))⟩
  · by_cases h2 : x1 > y1
    · go_enter Try.func48, Try.ntmps48
      go_wp2
      go_ret
      exact ⟨_, rfl, by simp; omega, by (repeat (first | exact Keeps.refl _ _ | exact Keeps.alloc _ _ | exact Keeps.drew _ | exact Keeps.drewN _ _ | refine Keeps.trans_drew ?_ | refine Keeps.trans_drewN ?_ | refine Keeps.trans_alloc ?_))⟩
    · go_enter Try.func48, Try.ntmps48
      go_wp2
      go_ret
      exact ⟨_, rfl, by simp; omega, by (repeat (first | exact Keeps.refl _ _ | exact Keeps.alloc _ _ | exact Keeps.drew _ | exact Keeps.drewN _ _ | refine Keeps.trans_drew ?_ | refine Keeps.trans_drewN ?_ | refine Keeps.trans_alloc ?_))⟩
theorem datSort1_by : CmpBy 48 (fun _ => True) := ⟨enters_of Try.func48 (by kernel_rfl) rfl, fun x y W _ _ => datSort1_any x y W⟩
set_option maxRecDepth 100000 in
set_option maxHeartbeats 800000 in
theorem datSort_any (v : Value) (L : List Ev) (w : World) (hr : Reads w 5 v L.length (L.flatMap Ev.cells)) (hl : L.length ≤ 1000000) :
    Calls Try.prog 25 #[v] w fun e w' => ∃ v', e = .returned v' ∧ w'.ownsRow 0 34 5 v' L.length ((sortL L).flatMap Ev.cells) ∧ Keeps (fun _ => False) w w' ∧ (∀ g, v'.ownBlock = some g → w.heap.size ≤ g) := by
  have hcl := cloneEv_any w v L.length (L.flatMap Ev.cells) hr (fun u hu => Ev.one _ u hu) (by omega)
  obtain ⟨ad, cap, rfl, _⟩ := id hr
  have Hr := Lib.hid hr; clear hr; have Hcl := Lib.hid hcl; clear hcl
  go_enter Try.func25, Try.ntmps25
  go_wp2_with (go_at_call 44; (with_reducible refine Hcl.out.mono ?_); rintro e w1 ⟨v1, rfl, hrow1, hk1, hnew1⟩; obtain ⟨ad1, c1, rfl, _, _⟩ := ownsRow_shape hrow1; have Hs := Lib.hid (sortEv_any 48 _ datSort1_by _ L w1 hrow1 (fun _ _ => trivial) hl); have Hk1 := Lib.hid hk1; have Hnew1 := Lib.hid hnew1; clear hk1 hnew1 hrow1)
  go_wp2_with (go_at_call 47; (with_reducible refine Hs.out.mono ?_); rintro e w2 ⟨rfl, hrow2, hk2⟩; have Hrow2 := Lib.hid hrow2; have Hk2 := Lib.hid hk2; clear hk2 hrow2)
  go_ret
  exact ⟨_, rfl, Hrow2.out, Hk1.out.trans (Hk2.out.mono fun i _ e => .inr (Hnew1.out i e)), Hnew1.out⟩
end Go.Proofs.Ytelhlbplbkglkaa
