/-
  ReplayRefused: for every input the law returns true, and each argument reads behind the call as it read before. No condition.
-/
import Derived.Test.YthcmpcekmkioaaaB10
namespace Go.Proofs.Ythcmpcekmkioaaa
open Go.RowKit
set_option maxRecDepth 100000 in
set_option maxHeartbeats 1600000 in
theorem replayRefused_walk (w : World) (a : Int) (_ : (Lit.int .i64 a).wf = true) : Calls Try.prog 10 #[.int .i64 a] w fun e w' => e = .returned (.bool true) ∧ Below w.heap.size w w' := by
 obtain ⟨q, hq⟩ : ∃ r, (IntKind.u64.wrap a).tmod 8 = r := ⟨_, rfl⟩
 have hu0 : 0 ≤ IntKind.u64.wrap a := by rw [IntKind.wrap_u64]; omega
 have q0 : 0 ≤ q := by rw [← hq]; exact Int.tmod_nonneg _ hu0
 have q1 : q < 8 := by rw [← hq]; exact Int.tmod_lt_of_pos _ (by decide)
 obtain ⟨Hq, Hu0⟩ := hid2 hq hu0; clear hu0 hq
 go_enter Try.func10, Try.ntmps10
 go_wp2_with (go_at_call 21; (with_reducible refine (flat19_any _).mono ?_); rintro e w1 ⟨TB, rfl, hr1, hk1⟩; have Hr1 := Lib.hid hr1; have Hk1 := Lib.hid hk1; clear hr1 hk1; refine haltW ?_)
 refine Lib.hid ?_
 have hq8 : q = 0 ∨ q = 1 ∨ q = 2 ∨ q = 3 ∨ q = 4 ∨ q = 5 ∨ q = 6 ∨ q = 7 := by omega
 clear q0 q1
 rcases hq8 with rfl | rfl | rfl | rfl | rfl | rfl | rfl | rfl
 ·have hq := Hq.out
  have hrun := fun ad2 W h1 h2 => repRun_any (tF) (some ⟨TB, 0, none⟩) 2 2 [⟨1, 10991, 1, 5, 0⟩] ad2 1 1 10990 W rfl h1 rfl h2 (by decide) (by decide)
  have hR : (walkR (tF) [⟨1, 10991, 1, 5, 0⟩] 10990).2 = 10 := by decide +kernel
  obtain ⟨R, hR2⟩ : ∃ R, walkR (tF) [⟨1, 10991, 1, 5, 0⟩] 10990 = R := ⟨_, rfl⟩
  rw [hR2] at hR hrun
  have hser := fun ad2 W h1 h2 => repSeries_bad (tF) (some ⟨TB, 0, none⟩) 2 2 [⟨1, 10991, 1, 5, 0⟩] ad2 1 1 10990 1 W rfl h1 rfl h2 (by decide) (by decide) 10 (by decide +kernel) (by decide)
  have hps := fun W => samePos_any [] 0 none none 0 0 0 0 W rfl (Reads.nil _ _) (Reads.nil _ _) (by decide)
  simp only [tF] at hrun hser
  have htb := heap_alloc_new w1
  obtain ⟨Hrun, Hser, HR, HR2, Hps, Htb⟩ := hid6 hrun hser hR hR2 hps htb; clear htb hps hR2 hR hser hrun
  go_wp2_with fail
  have hr3 := fun (W : World) (hk : Keeps (fun _ => False) w1 W) => (fun _ hk => Hr1.out.keeps hk (by simp)) W hk
  refine (Hrun.out (some ⟨w1.heap.size + 1 + 1, 0, none⟩) _ (hr3 _ (by (repeat (first | exact Keeps.refl _ _ | exact Keeps.alloc _ _ | exact Keeps.drew _ | exact Keeps.drewN _ _ | refine Keeps.trans_drew ?_ | refine Keeps.trans_drewN ?_ | refine Keeps.trans_alloc ?_)))) (Reads.litAt _ _ _ _ _ _ (by simp) rfl)).mono ?_
  rintro e w2 (⟨hz, _⟩ | ⟨hz, rfl, hk2⟩)
  ·exact absurd (HR.out.symm.trans hz) (by decide)
  rw [HR.out]
  have hb3 := box_old (box_alloc (box_alloc (Htb.out _) _) _) hk2 (by simp)
  have hb5 := box_old (box_alloc (halloc_at2 (i := w1.heap.size + 1) _ _ (by simp)) _) hk2 (by simp)
  have t0 := cell_of_cells (hb3) 0
  have t1 := cell_of_cells (hb3) 1
  have t2 := cell_of_cells (hb3) 2
  have t3 := cell_of_cells (hb3) 3
  have t4 := cell_of_cells (hb3) 4
  have t5 := cell_of_cells (hb3) 5
  have t6 := cell_of_cells (hb3) 6
  have tl := lt_of_block (hb3)
  have e0 := cell_of_cells hb5 0
  have e1 := cell_of_cells hb5 1
  have e2 := cell_of_cells hb5 2
  have e3 := cell_of_cells hb5 3
  have e4 := cell_of_cells hb5 4
  have el := lt_of_block hb5
  have hk12 : Keeps (fun _ => False) w1 w2 := Keeps.nt (by (repeat (first | exact Keeps.refl _ _ | exact Keeps.alloc _ _ | exact Keeps.drew _ | exact Keeps.drewN _ _ | refine Keeps.trans_drew ?_ | refine Keeps.trans_drewN ?_ | refine Keeps.trans_alloc ?_))) hk2
  obtain ⟨Hz, Hk2, Hb3, Hb5, Hk12, Hr3⟩ := hid6 hz hk2 hb3 hb5 hk12 hr3; clear hr3 hk12 hb5 hb3 hk2 hz
  go_wp2_with fail
  refine (Hser.out (some ⟨w2.heap.size + 1, 0, none⟩) _ (Hr3.out _ (Hk12.out.nt (by (repeat (first | exact Keeps.refl _ _ | exact Keeps.alloc _ _ | exact Keeps.drew _ | exact Keeps.drewN _ _ | refine Keeps.trans_drew ?_ | refine Keeps.trans_drewN ?_ | refine Keeps.trans_alloc ?_))))) (Reads.litAt _ _ _ _ _ _ (by simp) rfl)).mono ?_
  clear t0 t1 t2 t3 t4 t5 t6 tl
  clear e0 e1 e2 e3 e4 el
  rintro e w4 ⟨rfl, hk4⟩
  have hb7 := box_old (box_alloc (heap_alloc_new w2 _) _) hk4 (by simp)
  have hk14 : Keeps (fun _ => False) w1 w4 := Hk12.out.nt (Keeps.nt (by (repeat (first | exact Keeps.refl _ _ | exact Keeps.alloc _ _ | exact Keeps.drew _ | exact Keeps.drewN _ _ | refine Keeps.trans_drew ?_ | refine Keeps.trans_drewN ?_ | refine Keeps.trans_alloc ?_))) hk4)
  obtain ⟨Hk4, Hb7, Hk14⟩ := hid3 hk4 hb7 hk14; clear hk14 hb7 hk4
  go_wp2_with (go_at_call 11; (with_reducible refine (awake19_any _).mono ?_); rintro e w10 ⟨rfl, hk10⟩; have Hk10 := Lib.hid hk10; clear hk10; refine haltW ?_)
  refine Lib.hid ?_
  have hpA := box_old Hb7.out Hk10.out (by simp)
  have p0 := cell_of_cells hpA 0
  have p1 := cell_of_cells hpA 1
  have p2 := cell_of_cells hpA 2
  have pl := lt_of_block hpA
  have hkf := Hk1.out.nt (Hk14.out.nt Hk10.out)
  obtain ⟨HpA, Hkf⟩ := hid2 hpA hkf; clear hkf hpA
  go_wp2_with (go_at_call 16; (with_reducible refine (Hps.out _).mono ?_); rintro e w11 ⟨rfl, hk11⟩; have Hkf2 := Lib.hid (Hkf.out.nt hk11); clear hk11)
  go_ret
  exact ⟨rfl, Hkf2.out.below (by simp) (Nat.le_refl _)⟩
 ·have hq := Hq.out
  have hrun := fun ad2 W h1 h2 => repRun_any (tF) (some ⟨TB, 0, none⟩) 2 2 [⟨1, 10960, 1, 5, 0⟩] ad2 1 1 10956 W rfl h1 rfl h2 (by decide) (by decide)
  have hR : (walkR (tF) [⟨1, 10960, 1, 5, 0⟩] 10956).2 = 10 := by decide +kernel
  obtain ⟨R, hR2⟩ : ∃ R, walkR (tF) [⟨1, 10960, 1, 5, 0⟩] 10956 = R := ⟨_, rfl⟩
  rw [hR2] at hR hrun
  have hser := fun ad2 W h1 h2 => repSeries_bad (tF) (some ⟨TB, 0, none⟩) 2 2 [⟨1, 10960, 1, 5, 0⟩] ad2 1 1 10956 1 W rfl h1 rfl h2 (by decide) (by decide) 10 (by decide +kernel) (by decide)
  have hps := fun W => samePos_any [] 0 none none 0 0 0 0 W rfl (Reads.nil _ _) (Reads.nil _ _) (by decide)
  simp only [tF] at hrun hser
  have htb := heap_alloc_new w1
  obtain ⟨Hrun, Hser, HR, HR2, Hps, Htb⟩ := hid6 hrun hser hR hR2 hps htb; clear htb hps hR2 hR hser hrun
  go_wp2_with fail
  have hr3 := fun (W : World) (hk : Keeps (fun _ => False) w1 W) => (fun _ hk => Hr1.out.keeps hk (by simp)) W hk
  refine (Hrun.out (some ⟨w1.heap.size + 1 + 1, 0, none⟩) _ (hr3 _ (by (repeat (first | exact Keeps.refl _ _ | exact Keeps.alloc _ _ | exact Keeps.drew _ | exact Keeps.drewN _ _ | refine Keeps.trans_drew ?_ | refine Keeps.trans_drewN ?_ | refine Keeps.trans_alloc ?_)))) (Reads.litAt _ _ _ _ _ _ (by simp) rfl)).mono ?_
  rintro e w2 (⟨hz, _⟩ | ⟨hz, rfl, hk2⟩)
  ·exact absurd (HR.out.symm.trans hz) (by decide)
  rw [HR.out]
  have hb3 := box_old (box_alloc (box_alloc (Htb.out _) _) _) hk2 (by simp)
  have hb5 := box_old (box_alloc (halloc_at2 (i := w1.heap.size + 1) _ _ (by simp)) _) hk2 (by simp)
  have t0 := cell_of_cells (hb3) 0
  have t1 := cell_of_cells (hb3) 1
  have t2 := cell_of_cells (hb3) 2
  have t3 := cell_of_cells (hb3) 3
  have t4 := cell_of_cells (hb3) 4
  have t5 := cell_of_cells (hb3) 5
  have t6 := cell_of_cells (hb3) 6
  have tl := lt_of_block (hb3)
  have e0 := cell_of_cells hb5 0
  have e1 := cell_of_cells hb5 1
  have e2 := cell_of_cells hb5 2
  have e3 := cell_of_cells hb5 3
  have e4 := cell_of_cells hb5 4
  have el := lt_of_block hb5
  have hk12 : Keeps (fun _ => False) w1 w2 := Keeps.nt (by (repeat (first | exact Keeps.refl _ _ | exact Keeps.alloc _ _ | exact Keeps.drew _ | exact Keeps.drewN _ _ | refine Keeps.trans_drew ?_ | refine Keeps.trans_drewN ?_ | refine Keeps.trans_alloc ?_))) hk2
  obtain ⟨Hz, Hk2, Hb3, Hb5, Hk12, Hr3⟩ := hid6 hz hk2 hb3 hb5 hk12 hr3; clear hr3 hk12 hb5 hb3 hk2 hz
  go_wp2_with fail
  refine (Hser.out (some ⟨w2.heap.size + 1, 0, none⟩) _ (Hr3.out _ (Hk12.out.nt (by (repeat (first | exact Keeps.refl _ _ | exact Keeps.alloc _ _ | exact Keeps.drew _ | exact Keeps.drewN _ _ | refine Keeps.trans_drew ?_ | refine Keeps.trans_drewN ?_ | refine Keeps.trans_alloc ?_))))) (Reads.litAt _ _ _ _ _ _ (by simp) rfl)).mono ?_
  clear t0 t1 t2 t3 t4 t5 t6 tl
  clear e0 e1 e2 e3 e4 el
  rintro e w4 ⟨rfl, hk4⟩
  have hb7 := box_old (box_alloc (heap_alloc_new w2 _) _) hk4 (by simp)
  have hk14 : Keeps (fun _ => False) w1 w4 := Hk12.out.nt (Keeps.nt (by (repeat (first | exact Keeps.refl _ _ | exact Keeps.alloc _ _ | exact Keeps.drew _ | exact Keeps.drewN _ _ | refine Keeps.trans_drew ?_ | refine Keeps.trans_drewN ?_ | refine Keeps.trans_alloc ?_))) hk4)
  obtain ⟨Hk4, Hb7, Hk14⟩ := hid3 hk4 hb7 hk14; clear hk14 hb7 hk4
  go_wp2_with (go_at_call 11; (with_reducible refine (awake19_any _).mono ?_); rintro e w10 ⟨rfl, hk10⟩; have Hk10 := Lib.hid hk10; clear hk10; refine haltW ?_)
  refine Lib.hid ?_
  have hpA := box_old Hb7.out Hk10.out (by simp)
  have p0 := cell_of_cells hpA 0
  have p1 := cell_of_cells hpA 1
  have p2 := cell_of_cells hpA 2
  have pl := lt_of_block hpA
  have hkf := Hk1.out.nt (Hk14.out.nt Hk10.out)
  obtain ⟨HpA, Hkf⟩ := hid2 hpA hkf; clear hkf hpA
  go_wp2_with (go_at_call 16; (with_reducible refine (Hps.out _).mono ?_); rintro e w11 ⟨rfl, hk11⟩; have Hkf2 := Lib.hid (Hkf.out.nt hk11); clear hk11)
  go_ret
  exact ⟨rfl, Hkf2.out.below (by simp) (Nat.le_refl _)⟩
 ·have hq := Hq.out
  have hrun := fun ad2 W h1 h2 => repRun_any (tF) (some ⟨TB, 0, none⟩) 2 2 [⟨1, 10960, 1, 5, 0⟩] ad2 1 1 2932897 W rfl h1 rfl h2 (by decide) (by decide)
  have hR : (walkR (tF) [⟨1, 10960, 1, 5, 0⟩] 2932897).2 = 10 := by decide +kernel
  obtain ⟨R, hR2⟩ : ∃ R, walkR (tF) [⟨1, 10960, 1, 5, 0⟩] 2932897 = R := ⟨_, rfl⟩
  rw [hR2] at hR hrun
  have hser := fun ad2 W h1 h2 => repSeries_bad (tF) (some ⟨TB, 0, none⟩) 2 2 [⟨1, 10960, 1, 5, 0⟩] ad2 1 1 2932897 1 W rfl h1 rfl h2 (by decide) (by decide) 10 (by decide +kernel) (by decide)
  have hps := fun W => samePos_any [] 0 none none 0 0 0 0 W rfl (Reads.nil _ _) (Reads.nil _ _) (by decide)
  simp only [tF] at hrun hser
  have htb := heap_alloc_new w1
  obtain ⟨Hrun, Hser, HR, HR2, Hps, Htb⟩ := hid6 hrun hser hR hR2 hps htb; clear htb hps hR2 hR hser hrun
  go_wp2_with fail
  have hr3 := fun (W : World) (hk : Keeps (fun _ => False) w1 W) => (fun _ hk => Hr1.out.keeps hk (by simp)) W hk
  refine (Hrun.out (some ⟨w1.heap.size + 1 + 1, 0, none⟩) _ (hr3 _ (by (repeat (first | exact Keeps.refl _ _ | exact Keeps.alloc _ _ | exact Keeps.drew _ | exact Keeps.drewN _ _ | refine Keeps.trans_drew ?_ | refine Keeps.trans_drewN ?_ | refine Keeps.trans_alloc ?_)))) (Reads.litAt _ _ _ _ _ _ (by simp) rfl)).mono ?_
  rintro e w2 (⟨hz, _⟩ | ⟨hz, rfl, hk2⟩)
  ·exact absurd (HR.out.symm.trans hz) (by decide)
  rw [HR.out]
  have hb3 := box_old (box_alloc (box_alloc (Htb.out _) _) _) hk2 (by simp)
  have hb5 := box_old (box_alloc (halloc_at2 (i := w1.heap.size + 1) _ _ (by simp)) _) hk2 (by simp)
  have t0 := cell_of_cells (hb3) 0
  have t1 := cell_of_cells (hb3) 1
  have t2 := cell_of_cells (hb3) 2
  have t3 := cell_of_cells (hb3) 3
  have t4 := cell_of_cells (hb3) 4
  have t5 := cell_of_cells (hb3) 5
  have t6 := cell_of_cells (hb3) 6
  have tl := lt_of_block (hb3)
  have e0 := cell_of_cells hb5 0
  have e1 := cell_of_cells hb5 1
  have e2 := cell_of_cells hb5 2
  have e3 := cell_of_cells hb5 3
  have e4 := cell_of_cells hb5 4
  have el := lt_of_block hb5
  have hk12 : Keeps (fun _ => False) w1 w2 := Keeps.nt (by (repeat (first | exact Keeps.refl _ _ | exact Keeps.alloc _ _ | exact Keeps.drew _ | exact Keeps.drewN _ _ | refine Keeps.trans_drew ?_ | refine Keeps.trans_drewN ?_ | refine Keeps.trans_alloc ?_))) hk2
  obtain ⟨Hz, Hk2, Hb3, Hb5, Hk12, Hr3⟩ := hid6 hz hk2 hb3 hb5 hk12 hr3; clear hr3 hk12 hb5 hb3 hk2 hz
  go_wp2_with fail
  refine (Hser.out (some ⟨w2.heap.size + 1, 0, none⟩) _ (Hr3.out _ (Hk12.out.nt (by (repeat (first | exact Keeps.refl _ _ | exact Keeps.alloc _ _ | exact Keeps.drew _ | exact Keeps.drewN _ _ | refine Keeps.trans_drew ?_ | refine Keeps.trans_drewN ?_ | refine Keeps.trans_alloc ?_))))) (Reads.litAt _ _ _ _ _ _ (by simp) rfl)).mono ?_
  clear t0 t1 t2 t3 t4 t5 t6 tl
  clear e0 e1 e2 e3 e4 el
  rintro e w4 ⟨rfl, hk4⟩
  have hb7 := box_old (box_alloc (heap_alloc_new w2 _) _) hk4 (by simp)
  have hk14 : Keeps (fun _ => False) w1 w4 := Hk12.out.nt (Keeps.nt (by (repeat (first | exact Keeps.refl _ _ | exact Keeps.alloc _ _ | exact Keeps.drew _ | exact Keeps.drewN _ _ | refine Keeps.trans_drew ?_ | refine Keeps.trans_drewN ?_ | refine Keeps.trans_alloc ?_))) hk4)
  obtain ⟨Hk4, Hb7, Hk14⟩ := hid3 hk4 hb7 hk14; clear hk14 hb7 hk4
  go_wp2_with (go_at_call 11; (with_reducible refine (awake19_any _).mono ?_); rintro e w10 ⟨rfl, hk10⟩; have Hk10 := Lib.hid hk10; clear hk10; refine haltW ?_)
  refine Lib.hid ?_
  have hpA := box_old Hb7.out Hk10.out (by simp)
  have p0 := cell_of_cells hpA 0
  have p1 := cell_of_cells hpA 1
  have p2 := cell_of_cells hpA 2
  have pl := lt_of_block hpA
  have hkf := Hk1.out.nt (Hk14.out.nt Hk10.out)
  obtain ⟨HpA, Hkf⟩ := hid2 hpA hkf; clear hkf hpA
  go_wp2_with (go_at_call 16; (with_reducible refine (Hps.out _).mono ?_); rintro e w11 ⟨rfl, hk11⟩; have Hkf2 := Lib.hid (Hkf.out.nt hk11); clear hk11)
  go_ret
  exact ⟨rfl, Hkf2.out.below (by simp) (Nat.le_refl _)⟩
 ·have hq := Hq.out
  have hrun := fun ad2 W h1 h2 => repRun_any (tF) (some ⟨TB, 0, none⟩) 2 2 [⟨1, 10960, 3, 5, 0⟩] ad2 1 1 10990 W rfl h1 rfl h2 (by decide) (by decide)
  have hR : (walkR (tF) [⟨1, 10960, 3, 5, 0⟩] 10990).2 = 7 := by decide +kernel
  obtain ⟨R, hR2⟩ : ∃ R, walkR (tF) [⟨1, 10960, 3, 5, 0⟩] 10990 = R := ⟨_, rfl⟩
  rw [hR2] at hR hrun
  have hser := fun ad2 W h1 h2 => repSeries_bad (tF) (some ⟨TB, 0, none⟩) 2 2 [⟨1, 10960, 3, 5, 0⟩] ad2 1 1 10990 1 W rfl h1 rfl h2 (by decide) (by decide) 7 (by decide +kernel) (by decide)
  have hps := fun W => samePos_any [] 0 none none 0 0 0 0 W rfl (Reads.nil _ _) (Reads.nil _ _) (by decide)
  simp only [tF] at hrun hser
  have htb := heap_alloc_new w1
  obtain ⟨Hrun, Hser, HR, HR2, Hps, Htb⟩ := hid6 hrun hser hR hR2 hps htb; clear htb hps hR2 hR hser hrun
  go_wp2_with fail
  have hr3 := fun (W : World) (hk : Keeps (fun _ => False) w1 W) => (fun _ hk => Hr1.out.keeps hk (by simp)) W hk
  refine (Hrun.out (some ⟨w1.heap.size + 1 + 1, 0, none⟩) _ (hr3 _ (by (repeat (first | exact Keeps.refl _ _ | exact Keeps.alloc _ _ | exact Keeps.drew _ | exact Keeps.drewN _ _ | refine Keeps.trans_drew ?_ | refine Keeps.trans_drewN ?_ | refine Keeps.trans_alloc ?_)))) (Reads.litAt _ _ _ _ _ _ (by simp) rfl)).mono ?_
  rintro e w2 (⟨hz, _⟩ | ⟨hz, rfl, hk2⟩)
  ·exact absurd (HR.out.symm.trans hz) (by decide)
  rw [HR.out]
  have hb3 := box_old (box_alloc (box_alloc (Htb.out _) _) _) hk2 (by simp)
  have hb5 := box_old (box_alloc (halloc_at2 (i := w1.heap.size + 1) _ _ (by simp)) _) hk2 (by simp)
  have t0 := cell_of_cells (hb3) 0
  have t1 := cell_of_cells (hb3) 1
  have t2 := cell_of_cells (hb3) 2
  have t3 := cell_of_cells (hb3) 3
  have t4 := cell_of_cells (hb3) 4
  have t5 := cell_of_cells (hb3) 5
  have t6 := cell_of_cells (hb3) 6
  have tl := lt_of_block (hb3)
  have e0 := cell_of_cells hb5 0
  have e1 := cell_of_cells hb5 1
  have e2 := cell_of_cells hb5 2
  have e3 := cell_of_cells hb5 3
  have e4 := cell_of_cells hb5 4
  have el := lt_of_block hb5
  have hk12 : Keeps (fun _ => False) w1 w2 := Keeps.nt (by (repeat (first | exact Keeps.refl _ _ | exact Keeps.alloc _ _ | exact Keeps.drew _ | exact Keeps.drewN _ _ | refine Keeps.trans_drew ?_ | refine Keeps.trans_drewN ?_ | refine Keeps.trans_alloc ?_))) hk2
  obtain ⟨Hz, Hk2, Hb3, Hb5, Hk12, Hr3⟩ := hid6 hz hk2 hb3 hb5 hk12 hr3; clear hr3 hk12 hb5 hb3 hk2 hz
  go_wp2_with fail
  refine (Hser.out (some ⟨w2.heap.size + 1, 0, none⟩) _ (Hr3.out _ (Hk12.out.nt (by (repeat (first | exact Keeps.refl _ _ | exact Keeps.alloc _ _ | exact Keeps.drew _ | exact Keeps.drewN _ _ | refine Keeps.trans_drew ?_ | refine Keeps.trans_drewN ?_ | refine Keeps.trans_alloc ?_))))) (Reads.litAt _ _ _ _ _ _ (by simp) rfl)).mono ?_
  clear t0 t1 t2 t3 t4 t5 t6 tl
  clear e0 e1 e2 e3 e4 el
  rintro e w4 ⟨rfl, hk4⟩
  have hb7 := box_old (box_alloc (heap_alloc_new w2 _) _) hk4 (by simp)
  have hk14 : Keeps (fun _ => False) w1 w4 := Hk12.out.nt (Keeps.nt (by (repeat (first | exact Keeps.refl _ _ | exact Keeps.alloc _ _ | exact Keeps.drew _ | exact Keeps.drewN _ _ | refine Keeps.trans_drew ?_ | refine Keeps.trans_drewN ?_ | refine Keeps.trans_alloc ?_))) hk4)
  obtain ⟨Hk4, Hb7, Hk14⟩ := hid3 hk4 hb7 hk14; clear hk14 hb7 hk4
  go_wp2_with (go_at_call 11; (with_reducible refine (awake19_any _).mono ?_); rintro e w10 ⟨rfl, hk10⟩; have Hk10 := Lib.hid hk10; clear hk10; refine haltW ?_)
  refine Lib.hid ?_
  have hpA := box_old Hb7.out Hk10.out (by simp)
  have p0 := cell_of_cells hpA 0
  have p1 := cell_of_cells hpA 1
  have p2 := cell_of_cells hpA 2
  have pl := lt_of_block hpA
  have hkf := Hk1.out.nt (Hk14.out.nt Hk10.out)
  obtain ⟨HpA, Hkf⟩ := hid2 hpA hkf; clear hkf hpA
  go_wp2_with (go_at_call 16; (with_reducible refine (Hps.out _).mono ?_); rintro e w11 ⟨rfl, hk11⟩; have Hkf2 := Lib.hid (Hkf.out.nt hk11); clear hk11)
  go_ret
  exact ⟨rfl, Hkf2.out.below (by simp) (Nat.le_refl _)⟩
 ·have hq := Hq.out
  have hrun := fun ad2 W h1 h2 => repRun_any (tF) (some ⟨TB, 0, none⟩) 2 2 [⟨1, 10960, 1, 0, 0⟩] ad2 1 1 10990 W rfl h1 rfl h2 (by decide) (by decide)
  have hR : (walkR (tF) [⟨1, 10960, 1, 0, 0⟩] 10990).2 = 8 := by decide +kernel
  obtain ⟨R, hR2⟩ : ∃ R, walkR (tF) [⟨1, 10960, 1, 0, 0⟩] 10990 = R := ⟨_, rfl⟩
  rw [hR2] at hR hrun
  have hser := fun ad2 W h1 h2 => repSeries_bad (tF) (some ⟨TB, 0, none⟩) 2 2 [⟨1, 10960, 1, 0, 0⟩] ad2 1 1 10990 1 W rfl h1 rfl h2 (by decide) (by decide) 8 (by decide +kernel) (by decide)
  have hps := fun W => samePos_any [] 0 none none 0 0 0 0 W rfl (Reads.nil _ _) (Reads.nil _ _) (by decide)
  simp only [tF] at hrun hser
  have htb := heap_alloc_new w1
  obtain ⟨Hrun, Hser, HR, HR2, Hps, Htb⟩ := hid6 hrun hser hR hR2 hps htb; clear htb hps hR2 hR hser hrun
  go_wp2_with fail
  have hr3 := fun (W : World) (hk : Keeps (fun _ => False) w1 W) => (fun _ hk => Hr1.out.keeps hk (by simp)) W hk
  refine (Hrun.out (some ⟨w1.heap.size + 1 + 1, 0, none⟩) _ (hr3 _ (by (repeat (first | exact Keeps.refl _ _ | exact Keeps.alloc _ _ | exact Keeps.drew _ | exact Keeps.drewN _ _ | refine Keeps.trans_drew ?_ | refine Keeps.trans_drewN ?_ | refine Keeps.trans_alloc ?_)))) (Reads.litAt _ _ _ _ _ _ (by simp) rfl)).mono ?_
  rintro e w2 (⟨hz, _⟩ | ⟨hz, rfl, hk2⟩)
  ·exact absurd (HR.out.symm.trans hz) (by decide)
  rw [HR.out]
  have hb3 := box_old (box_alloc (box_alloc (Htb.out _) _) _) hk2 (by simp)
  have hb5 := box_old (box_alloc (halloc_at2 (i := w1.heap.size + 1) _ _ (by simp)) _) hk2 (by simp)
  have t0 := cell_of_cells (hb3) 0
  have t1 := cell_of_cells (hb3) 1
  have t2 := cell_of_cells (hb3) 2
  have t3 := cell_of_cells (hb3) 3
  have t4 := cell_of_cells (hb3) 4
  have t5 := cell_of_cells (hb3) 5
  have t6 := cell_of_cells (hb3) 6
  have tl := lt_of_block (hb3)
  have e0 := cell_of_cells hb5 0
  have e1 := cell_of_cells hb5 1
  have e2 := cell_of_cells hb5 2
  have e3 := cell_of_cells hb5 3
  have e4 := cell_of_cells hb5 4
  have el := lt_of_block hb5
  have hk12 : Keeps (fun _ => False) w1 w2 := Keeps.nt (by (repeat (first | exact Keeps.refl _ _ | exact Keeps.alloc _ _ | exact Keeps.drew _ | exact Keeps.drewN _ _ | refine Keeps.trans_drew ?_ | refine Keeps.trans_drewN ?_ | refine Keeps.trans_alloc ?_))) hk2
  obtain ⟨Hz, Hk2, Hb3, Hb5, Hk12, Hr3⟩ := hid6 hz hk2 hb3 hb5 hk12 hr3; clear hr3 hk12 hb5 hb3 hk2 hz
  go_wp2_with fail
  refine (Hser.out (some ⟨w2.heap.size + 1, 0, none⟩) _ (Hr3.out _ (Hk12.out.nt (by (repeat (first | exact Keeps.refl _ _ | exact Keeps.alloc _ _ | exact Keeps.drew _ | exact Keeps.drewN _ _ | refine Keeps.trans_drew ?_ | refine Keeps.trans_drewN ?_ | refine Keeps.trans_alloc ?_))))) (Reads.litAt _ _ _ _ _ _ (by simp) rfl)).mono ?_
  clear t0 t1 t2 t3 t4 t5 t6 tl
  clear e0 e1 e2 e3 e4 el
  rintro e w4 ⟨rfl, hk4⟩
  have hb7 := box_old (box_alloc (heap_alloc_new w2 _) _) hk4 (by simp)
  have hk14 : Keeps (fun _ => False) w1 w4 := Hk12.out.nt (Keeps.nt (by (repeat (first | exact Keeps.refl _ _ | exact Keeps.alloc _ _ | exact Keeps.drew _ | exact Keeps.drewN _ _ | refine Keeps.trans_drew ?_ | refine Keeps.trans_drewN ?_ | refine Keeps.trans_alloc ?_))) hk4)
  obtain ⟨Hk4, Hb7, Hk14⟩ := hid3 hk4 hb7 hk14; clear hk14 hb7 hk4
  go_wp2_with (go_at_call 11; (with_reducible refine (awake19_any _).mono ?_); rintro e w10 ⟨rfl, hk10⟩; have Hk10 := Lib.hid hk10; clear hk10; refine haltW ?_)
  refine Lib.hid ?_
  have hpA := box_old Hb7.out Hk10.out (by simp)
  have p0 := cell_of_cells hpA 0
  have p1 := cell_of_cells hpA 1
  have p2 := cell_of_cells hpA 2
  have pl := lt_of_block hpA
  have hkf := Hk1.out.nt (Hk14.out.nt Hk10.out)
  obtain ⟨HpA, Hkf⟩ := hid2 hpA hkf; clear hkf hpA
  go_wp2_with (go_at_call 16; (with_reducible refine (Hps.out _).mono ?_); rintro e w11 ⟨rfl, hk11⟩; have Hkf2 := Lib.hid (Hkf.out.nt hk11); clear hk11)
  go_ret
  exact ⟨rfl, Hkf2.out.below (by simp) (Nat.le_refl _)⟩
 ·have hq := Hq.out
  have hrun := fun ad2 W h1 h2 => repRun_any (tF) (some ⟨TB, 0, none⟩) 2 2 [⟨7, 10960, 1, 5, 0⟩] ad2 1 1 10990 W rfl h1 rfl h2 (by decide) (by decide)
  have hR : (walkR (tF) [⟨7, 10960, 1, 5, 0⟩] 10990).2 = 1 := by decide +kernel
  obtain ⟨R, hR2⟩ : ∃ R, walkR (tF) [⟨7, 10960, 1, 5, 0⟩] 10990 = R := ⟨_, rfl⟩
  rw [hR2] at hR hrun
  have hser := fun ad2 W h1 h2 => repSeries_bad (tF) (some ⟨TB, 0, none⟩) 2 2 [⟨7, 10960, 1, 5, 0⟩] ad2 1 1 10990 1 W rfl h1 rfl h2 (by decide) (by decide) 1 (by decide +kernel) (by decide)
  have hps := fun W => samePos_any [] 0 none none 0 0 0 0 W rfl (Reads.nil _ _) (Reads.nil _ _) (by decide)
  simp only [tF] at hrun hser
  have htb := heap_alloc_new w1
  obtain ⟨Hrun, Hser, HR, HR2, Hps, Htb⟩ := hid6 hrun hser hR hR2 hps htb; clear htb hps hR2 hR hser hrun
  go_wp2_with fail
  have hr3 := fun (W : World) (hk : Keeps (fun _ => False) w1 W) => (fun _ hk => Hr1.out.keeps hk (by simp)) W hk
  refine (Hrun.out (some ⟨w1.heap.size + 1 + 1, 0, none⟩) _ (hr3 _ (by (repeat (first | exact Keeps.refl _ _ | exact Keeps.alloc _ _ | exact Keeps.drew _ | exact Keeps.drewN _ _ | refine Keeps.trans_drew ?_ | refine Keeps.trans_drewN ?_ | refine Keeps.trans_alloc ?_)))) (Reads.litAt _ _ _ _ _ _ (by simp) rfl)).mono ?_
  rintro e w2 (⟨hz, _⟩ | ⟨hz, rfl, hk2⟩)
  ·exact absurd (HR.out.symm.trans hz) (by decide)
  rw [HR.out]
  have hb3 := box_old (box_alloc (box_alloc (Htb.out _) _) _) hk2 (by simp)
  have hb5 := box_old (box_alloc (halloc_at2 (i := w1.heap.size + 1) _ _ (by simp)) _) hk2 (by simp)
  have t0 := cell_of_cells (hb3) 0
  have t1 := cell_of_cells (hb3) 1
  have t2 := cell_of_cells (hb3) 2
  have t3 := cell_of_cells (hb3) 3
  have t4 := cell_of_cells (hb3) 4
  have t5 := cell_of_cells (hb3) 5
  have t6 := cell_of_cells (hb3) 6
  have tl := lt_of_block (hb3)
  have e0 := cell_of_cells hb5 0
  have e1 := cell_of_cells hb5 1
  have e2 := cell_of_cells hb5 2
  have e3 := cell_of_cells hb5 3
  have e4 := cell_of_cells hb5 4
  have el := lt_of_block hb5
  have hk12 : Keeps (fun _ => False) w1 w2 := Keeps.nt (by (repeat (first | exact Keeps.refl _ _ | exact Keeps.alloc _ _ | exact Keeps.drew _ | exact Keeps.drewN _ _ | refine Keeps.trans_drew ?_ | refine Keeps.trans_drewN ?_ | refine Keeps.trans_alloc ?_))) hk2
  obtain ⟨Hz, Hk2, Hb3, Hb5, Hk12, Hr3⟩ := hid6 hz hk2 hb3 hb5 hk12 hr3; clear hr3 hk12 hb5 hb3 hk2 hz
  go_wp2_with fail
  refine (Hser.out (some ⟨w2.heap.size + 1, 0, none⟩) _ (Hr3.out _ (Hk12.out.nt (by (repeat (first | exact Keeps.refl _ _ | exact Keeps.alloc _ _ | exact Keeps.drew _ | exact Keeps.drewN _ _ | refine Keeps.trans_drew ?_ | refine Keeps.trans_drewN ?_ | refine Keeps.trans_alloc ?_))))) (Reads.litAt _ _ _ _ _ _ (by simp) rfl)).mono ?_
  clear t0 t1 t2 t3 t4 t5 t6 tl
  clear e0 e1 e2 e3 e4 el
  rintro e w4 ⟨rfl, hk4⟩
  have hb7 := box_old (box_alloc (heap_alloc_new w2 _) _) hk4 (by simp)
  have hk14 : Keeps (fun _ => False) w1 w4 := Hk12.out.nt (Keeps.nt (by (repeat (first | exact Keeps.refl _ _ | exact Keeps.alloc _ _ | exact Keeps.drew _ | exact Keeps.drewN _ _ | refine Keeps.trans_drew ?_ | refine Keeps.trans_drewN ?_ | refine Keeps.trans_alloc ?_))) hk4)
  obtain ⟨Hk4, Hb7, Hk14⟩ := hid3 hk4 hb7 hk14; clear hk14 hb7 hk4
  go_wp2_with (go_at_call 11; (with_reducible refine (awake19_any _).mono ?_); rintro e w10 ⟨rfl, hk10⟩; have Hk10 := Lib.hid hk10; clear hk10; refine haltW ?_)
  refine Lib.hid ?_
  have hpA := box_old Hb7.out Hk10.out (by simp)
  have p0 := cell_of_cells hpA 0
  have p1 := cell_of_cells hpA 1
  have p2 := cell_of_cells hpA 2
  have pl := lt_of_block hpA
  have hkf := Hk1.out.nt (Hk14.out.nt Hk10.out)
  obtain ⟨HpA, Hkf⟩ := hid2 hpA hkf; clear hkf hpA
  go_wp2_with (go_at_call 16; (with_reducible refine (Hps.out _).mono ?_); rintro e w11 ⟨rfl, hk11⟩; have Hkf2 := Lib.hid (Hkf.out.nt hk11); clear hk11)
  go_ret
  exact ⟨rfl, Hkf2.out.below (by simp) (Nat.le_refl _)⟩
 ·have hq := Hq.out
  have hrun := fun ad2 W h1 h2 => repRun_any ({ tF with trs := [] }) (none) 0 0 [⟨1, 10960, 1, 5, 0⟩] ad2 1 1 10990 W rfl h1 rfl h2 (by decide) (by decide)
  have hR : (walkR ({ tF with trs := [] }) [⟨1, 10960, 1, 5, 0⟩] 10990).2 = 6 := by decide +kernel
  obtain ⟨R, hR2⟩ : ∃ R, walkR ({ tF with trs := [] }) [⟨1, 10960, 1, 5, 0⟩] 10990 = R := ⟨_, rfl⟩
  rw [hR2] at hR hrun
  have hser := fun ad2 W h1 h2 => repSeries_bad ({ tF with trs := [] }) (none) 0 0 [⟨1, 10960, 1, 5, 0⟩] ad2 1 1 10990 1 W rfl h1 rfl h2 (by decide) (by decide) 6 (by decide +kernel) (by decide)
  have hps := fun W => samePos_any [] 0 none none 0 0 0 0 W rfl (Reads.nil _ _) (Reads.nil _ _) (by decide)
  simp only [tF] at hrun hser
  have htb := heap_alloc_new w1
  obtain ⟨Hrun, Hser, HR, HR2, Hps, Htb⟩ := hid6 hrun hser hR hR2 hps htb; clear htb hps hR2 hR hser hrun
  go_wp2_with fail
  have hr3 := fun (W : World) (hk : Keeps (fun _ => False) w1 W) => (fun W _ => Reads.nil W 2) W hk
  refine (Hrun.out (some ⟨w1.heap.size + 1 + 1, 0, none⟩) _ (hr3 _ (by (repeat (first | exact Keeps.refl _ _ | exact Keeps.alloc _ _ | exact Keeps.drew _ | exact Keeps.drewN _ _ | refine Keeps.trans_drew ?_ | refine Keeps.trans_drewN ?_ | refine Keeps.trans_alloc ?_)))) (Reads.litAt _ _ _ _ _ _ (by simp) rfl)).mono ?_
  rintro e w2 (⟨hz, _⟩ | ⟨hz, rfl, hk2⟩)
  ·exact absurd (HR.out.symm.trans hz) (by decide)
  rw [HR.out]
  have hb3 := box_old (box_alloc (box_alloc (Htb.out _) _) _) hk2 (by simp)
  have hb5 := box_old (box_alloc (halloc_at2 (i := w1.heap.size + 1) _ _ (by simp)) _) hk2 (by simp)
  have t0 := cell_of_cells (hb3) 0
  have t1 := cell_of_cells (hb3) 1
  have t2 := cell_of_cells (hb3) 2
  have t3 := cell_of_cells (hb3) 3
  have t4 := cell_of_cells (hb3) 4
  have t5 := cell_of_cells (hb3) 5
  have t6 := cell_of_cells (hb3) 6
  have tl := lt_of_block (hb3)
  have e0 := cell_of_cells hb5 0
  have e1 := cell_of_cells hb5 1
  have e2 := cell_of_cells hb5 2
  have e3 := cell_of_cells hb5 3
  have e4 := cell_of_cells hb5 4
  have el := lt_of_block hb5
  have hk12 : Keeps (fun _ => False) w1 w2 := Keeps.nt (by (repeat (first | exact Keeps.refl _ _ | exact Keeps.alloc _ _ | exact Keeps.drew _ | exact Keeps.drewN _ _ | refine Keeps.trans_drew ?_ | refine Keeps.trans_drewN ?_ | refine Keeps.trans_alloc ?_))) hk2
  obtain ⟨Hz, Hk2, Hb3, Hb5, Hk12, Hr3⟩ := hid6 hz hk2 hb3 hb5 hk12 hr3; clear hr3 hk12 hb5 hb3 hk2 hz
  go_wp2_with fail
  refine (Hser.out (some ⟨w2.heap.size + 1, 0, none⟩) _ (Hr3.out _ (Hk12.out.nt (by (repeat (first | exact Keeps.refl _ _ | exact Keeps.alloc _ _ | exact Keeps.drew _ | exact Keeps.drewN _ _ | refine Keeps.trans_drew ?_ | refine Keeps.trans_drewN ?_ | refine Keeps.trans_alloc ?_))))) (Reads.litAt _ _ _ _ _ _ (by simp) rfl)).mono ?_
  clear t0 t1 t2 t3 t4 t5 t6 tl
  clear e0 e1 e2 e3 e4 el
  rintro e w4 ⟨rfl, hk4⟩
  have hb7 := box_old (box_alloc (heap_alloc_new w2 _) _) hk4 (by simp)
  have hk14 : Keeps (fun _ => False) w1 w4 := Hk12.out.nt (Keeps.nt (by (repeat (first | exact Keeps.refl _ _ | exact Keeps.alloc _ _ | exact Keeps.drew _ | exact Keeps.drewN _ _ | refine Keeps.trans_drew ?_ | refine Keeps.trans_drewN ?_ | refine Keeps.trans_alloc ?_))) hk4)
  obtain ⟨Hk4, Hb7, Hk14⟩ := hid3 hk4 hb7 hk14; clear hk14 hb7 hk4
  go_wp2_with (go_at_call 11; (with_reducible refine (awake19_any _).mono ?_); rintro e w10 ⟨rfl, hk10⟩; have Hk10 := Lib.hid hk10; clear hk10; refine haltW ?_)
  refine Lib.hid ?_
  have hpA := box_old Hb7.out Hk10.out (by simp)
  have p0 := cell_of_cells hpA 0
  have p1 := cell_of_cells hpA 1
  have p2 := cell_of_cells hpA 2
  have pl := lt_of_block hpA
  have hkf := Hk1.out.nt (Hk14.out.nt Hk10.out)
  obtain ⟨HpA, Hkf⟩ := hid2 hpA hkf; clear hkf hpA
  go_wp2_with (go_at_call 16; (with_reducible refine (Hps.out _).mono ?_); rintro e w11 ⟨rfl, hk11⟩; have Hkf2 := Lib.hid (Hkf.out.nt hk11); clear hk11)
  go_ret
  exact ⟨rfl, Hkf2.out.below (by simp) (Nat.le_refl _)⟩
 ·have hq := Hq.out
  have hrun := fun ad2 W h1 h2 => repRun_any (tF) (some ⟨TB, 0, none⟩) 2 2 [⟨1, 10960, 1, 5, 0⟩] ad2 1 1 23357 W rfl h1 rfl h2 (by decide) (by decide)
  have hR : (walkR (tF) [⟨1, 10960, 1, 5, 0⟩] 23357).2 = 10 := by decide +kernel
  obtain ⟨R, hR2⟩ : ∃ R, walkR (tF) [⟨1, 10960, 1, 5, 0⟩] 23357 = R := ⟨_, rfl⟩
  rw [hR2] at hR hrun
  have hser := fun ad2 W h1 h2 => repSeries_bad (tF) (some ⟨TB, 0, none⟩) 2 2 [⟨1, 10960, 1, 5, 0⟩] ad2 1 1 23357 1 W rfl h1 rfl h2 (by decide) (by decide) 10 (by decide +kernel) (by decide)
  have hps := fun W => samePos_any [] 0 none none 0 0 0 0 W rfl (Reads.nil _ _) (Reads.nil _ _) (by decide)
  simp only [tF] at hrun hser
  have htb := heap_alloc_new w1
  obtain ⟨Hrun, Hser, HR, HR2, Hps, Htb⟩ := hid6 hrun hser hR hR2 hps htb; clear htb hps hR2 hR hser hrun
  go_wp2_with fail
  have hr3 := fun (W : World) (hk : Keeps (fun _ => False) w1 W) => (fun _ hk => Hr1.out.keeps hk (by simp)) W hk
  refine (Hrun.out (some ⟨w1.heap.size + 1 + 1, 0, none⟩) _ (hr3 _ (by (repeat (first | exact Keeps.refl _ _ | exact Keeps.alloc _ _ | exact Keeps.drew _ | exact Keeps.drewN _ _ | refine Keeps.trans_drew ?_ | refine Keeps.trans_drewN ?_ | refine Keeps.trans_alloc ?_)))) (Reads.litAt _ _ _ _ _ _ (by simp) rfl)).mono ?_
  rintro e w2 (⟨hz, _⟩ | ⟨hz, rfl, hk2⟩)
  ·exact absurd (HR.out.symm.trans hz) (by decide)
  rw [HR.out]
  have hb3 := box_old (box_alloc (box_alloc (Htb.out _) _) _) hk2 (by simp)
  have hb5 := box_old (box_alloc (halloc_at2 (i := w1.heap.size + 1) _ _ (by simp)) _) hk2 (by simp)
  have t0 := cell_of_cells (hb3) 0
  have t1 := cell_of_cells (hb3) 1
  have t2 := cell_of_cells (hb3) 2
  have t3 := cell_of_cells (hb3) 3
  have t4 := cell_of_cells (hb3) 4
  have t5 := cell_of_cells (hb3) 5
  have t6 := cell_of_cells (hb3) 6
  have tl := lt_of_block (hb3)
  have e0 := cell_of_cells hb5 0
  have e1 := cell_of_cells hb5 1
  have e2 := cell_of_cells hb5 2
  have e3 := cell_of_cells hb5 3
  have e4 := cell_of_cells hb5 4
  have el := lt_of_block hb5
  have hk12 : Keeps (fun _ => False) w1 w2 := Keeps.nt (by (repeat (first | exact Keeps.refl _ _ | exact Keeps.alloc _ _ | exact Keeps.drew _ | exact Keeps.drewN _ _ | refine Keeps.trans_drew ?_ | refine Keeps.trans_drewN ?_ | refine Keeps.trans_alloc ?_))) hk2
  obtain ⟨Hz, Hk2, Hb3, Hb5, Hk12, Hr3⟩ := hid6 hz hk2 hb3 hb5 hk12 hr3; clear hr3 hk12 hb5 hb3 hk2 hz
  go_wp2_with fail
  refine (Hser.out (some ⟨w2.heap.size + 1, 0, none⟩) _ (Hr3.out _ (Hk12.out.nt (by (repeat (first | exact Keeps.refl _ _ | exact Keeps.alloc _ _ | exact Keeps.drew _ | exact Keeps.drewN _ _ | refine Keeps.trans_drew ?_ | refine Keeps.trans_drewN ?_ | refine Keeps.trans_alloc ?_))))) (Reads.litAt _ _ _ _ _ _ (by simp) rfl)).mono ?_
  clear t0 t1 t2 t3 t4 t5 t6 tl
  clear e0 e1 e2 e3 e4 el
  rintro e w4 ⟨rfl, hk4⟩
  have hb7 := box_old (box_alloc (heap_alloc_new w2 _) _) hk4 (by simp)
  have hk14 : Keeps (fun _ => False) w1 w4 := Hk12.out.nt (Keeps.nt (by (repeat (first | exact Keeps.refl _ _ | exact Keeps.alloc _ _ | exact Keeps.drew _ | exact Keeps.drewN _ _ | refine Keeps.trans_drew ?_ | refine Keeps.trans_drewN ?_ | refine Keeps.trans_alloc ?_))) hk4)
  obtain ⟨Hk4, Hb7, Hk14⟩ := hid3 hk4 hb7 hk14; clear hk14 hb7 hk4
  go_wp2_with (go_at_call 11; (with_reducible refine (awake19_any _).mono ?_); rintro e w10 ⟨rfl, hk10⟩; have Hk10 := Lib.hid hk10; clear hk10; refine haltW ?_)
  refine Lib.hid ?_
  have hpA := box_old Hb7.out Hk10.out (by simp)
  have p0 := cell_of_cells hpA 0
  have p1 := cell_of_cells hpA 1
  have p2 := cell_of_cells hpA 2
  have pl := lt_of_block hpA
  have hkf := Hk1.out.nt (Hk14.out.nt Hk10.out)
  obtain ⟨HpA, Hkf⟩ := hid2 hpA hkf; clear hkf hpA
  go_wp2_with (go_at_call 16; (with_reducible refine (Hps.out _).mono ?_); rintro e w11 ⟨rfl, hk11⟩; have Hkf2 := Lib.hid (Hkf.out.nt hk11); clear hk11)
  go_ret
  exact ⟨rfl, Hkf2.out.below (by simp) (Nat.le_refl _)⟩
end Go.Proofs.Ythcmpcekmkioaaa
namespace Go.Proofs.Ythcmpcekmkioaaa.replayRefused
open Go.ChangeShapes Go.WideShapes Go.ChangeAt Go.RowKit Go.Deep
set_option maxRecDepth 100000 in
theorem lifted (os : Os) (started : os.Started) (H : Type) (enc : TypeId × Value → H) :
  ReturnsInHanded {} Try.checked os 10 .any (Rows.replayRefusedSpec.pre6 enc Try.prog Try.f10 Rows.replayRefusedRow.domain false) (Rows.replayRefusedSpec.post enc Try.prog Try.f10 false true false false) := by
 refine returnsInHanded_of_change (C := Try.checked) own started (by kernel_rfl) Try.func10
  (ChangeSpec.witness6 (enc := enc) (C := Try.checked) false ⟨#[], #[.int .i64 0], []⟩ 8 (by kernel_rfl) (by kernel_rfl) (by kernel_rfl) (by kernel_rfl)) ?_
 intro W base args ds gs before hval0 hW hcnd _
 have hval : ∀ (j : Nat) t v, Try.f10.params[j]? = some t → args[j]? = some v → Value.okWide Try.prog W .any base t v := hval0
 have hW' := hW
 obtain ⟨p, q, hA0, hV, rfl, hfz, hnd⟩ := hW
 have hA : DataW.TrodAll enc Try.prog W 0 (fun _ => true) true Try.f10.params.toList args.toList ds p := hA0
 rw [Try.params10] at hA hval
 obtain ⟨v0, vs0, d0, ds0, p0, q0, hargs, rfl, rfl, h0, r0⟩ := trodAll_cons hA
 obtain ⟨rfl, rfl, rfl⟩ := trodAll_nil r0
 obtain rfl : args = #[v0] := by cases args; simp_all
 obtain ⟨rfl, rfl⟩ := trodVars_none hV
 obtain ⟨a0, rfl, rfl, rfl, w0⟩ := open_int Try.underlying3 (hval 0 3 v0 rfl rfl) h0
 clear hA0 hval0
 refine (replayRefused_walk W a0 w0).mono fun e W' ⟨he, bel⟩ => ?_
 subst he
 exact ⟨_, rfl, _, _, _, [], _, [], hW', trodAll_mk1 (shut_bool Try.underlying4 _), (trodAll_cons_mk (shut_int Try.underlying3 w0) trodAll_mk0), rfl, bel.frame _, fun h => by cases h⟩
theorem over : Rows.replayRefusedRow.holds Try.pinned (OpenSpec.ofChange Rows.replayRefusedSpec) :=
 OpenClaim.holds_of_wide 10 Try.f10 rfl rfl rfl rfl rfl rfl rfl ⟨rfl, rfl, rfl, rfl, rfl⟩ rfl rfl rfl rfl rfl (by kernel_rfl) Try.func10 (by kernel_rfl)
  (of_decide_eq_true (by kernel_rfl)) (by unfold Func.isWrapper; first | (rw [if_pos (by decide +kernel)]; kernel_rfl) | (rw [if_neg (by decide +kernel)]; exact ⟨rfl, rfl⟩))
  (fun os started H enc _ => lifted os started H enc)
theorem proved : Rows.ReplayRefusedSaid := over
#print axioms proved
end Go.Proofs.Ythcmpcekmkioaaa.replayRefused
