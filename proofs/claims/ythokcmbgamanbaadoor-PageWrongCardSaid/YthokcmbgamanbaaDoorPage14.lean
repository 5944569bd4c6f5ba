/- PageWrong: a statement with one number that may not be is none. -/
import Derived.Test.YthokcmbgamanbaaDoorPage8
namespace Go.Proofs.YthokcmbgamanbaaDoor
open Go.RowKit
theorem packAt {w : World} {s : Stm} {ad : Option Addr} {cap m : Nat} (hm : s.lines.length = m) (hr : Reads w 3 (.slice ad m cap) m (s.lines.flatMap Ln.cells)) (hl : m ≤ 1000000) (hw : s.rightB = false) :
    Calls Tryd.prog 7 #[s.val (.slice ad m cap)] w fun e w' => ∃ ad' cap', e = .returned (.tuple #[.slice ad' 0 cap', .int .i64 4]) ∧ Keeps (fun _ => False) w w' := by
  subst hm
  refine (pagePack_any s ad cap w hr hl).mono ?_
  rintro e w' ⟨v, rfl, hf⟩
  have h0 : packB s = [] := by unfold packB; rw [hw]; rfl
  have h4 : packErr s = 4 := by unfold packErr; rw [hw]; rfl
  have hrow := hf.row
  rw [h0] at hrow
  obtain ⟨ad', cap', rfl, _, _⟩ := ownsRow_shape hrow
  exact ⟨ad', cap', by rw [h4]; rfl, hf.kp⟩
theorem rightAt {w : World} {s : Stm} {ad : Option Addr} {cap m : Nat} (hm : s.lines.length = m) (hr : Reads w 3 (.slice ad m cap) m (s.lines.flatMap Ln.cells)) (hl : m ≤ 1000000) (hw : s.rightB = false) :
    Calls Tryd.prog 9 #[s.val (.slice ad m cap)] w fun e w' => e = .returned (.bool false) ∧ Keeps (fun _ => False) w w' := by
  subst hm
  have := pageRight_any s ad cap w hr hl
  rw [hw] at this; exact this
set_option maxRecDepth 100000 in
set_option maxHeartbeats 800000 in
theorem textAt {w : World} {s : Stm} {ad : Option Addr} {cap m : Nat} (hm : s.lines.length = m) (hr : Reads w 3 (.slice ad m cap) m (s.lines.flatMap Ln.cells)) (hl : m ≤ 1000000) (hw : s.rightB = false) :
    Calls Tryd.prog 10 #[s.val (.slice ad m cap)] w fun e w' => e = .returned (.string ⟨#[]⟩) ∧ Keeps (fun _ => False) w w' := by
  have hright := rightAt hm ((hr.alloc (.cells #[.int .i64 s.cycle, .int .i64 s.fr, .int .i64 s.to, .int .i64 s.due, .slice ad m cap, .int .i64 s.total, .int .i64 s.credit, .int .i64 s.min, .bool s.grace] 26))) hl hw
  obtain ⟨cy, fr, to, du, tot, cr, mi, gr, L⟩ := s
  simp only [Stm.val] at hright hr hm ⊢
  have Hr := Lib.hid hr; clear hr; have Hright := Lib.hid hright; clear hright; have Hw := Lib.hid hw; clear hw
  go_enter Tryd.func10, Tryd.ntmps10
  go_wp2_with (go_at_call 9; refine Hright.out.mono ?_; rintro e w1 ⟨rfl, hk⟩; have Hk := Lib.hid hk; clear hk)
  go_ret
  exact ⟨rfl, (Keeps.alloc _ _).none_trans Hk.out⟩
set_option maxRecDepth 100000 in
set_option maxHeartbeats 400000 in
theorem one20_eq (w : World) : Calls Tryd.prog 6 #[] w fun e w' => e = .returned (.agg #[.int .i64 1, .int .i64 10957, .int .i64 10987, .int .i64 11000, .slice (some ⟨w.heap.size + 1, 0, none⟩) 1 1, .int .i64 5, .int .i64 0, .int .i64 5, .bool true]) ∧
    w' = (w.alloc (.cells #[.int .i64 1, .int .i64 10957, .int .i64 10987, .int .i64 11000, .slice (some ⟨w.heap.size + 1, 0, none⟩) 1 1, .int .i64 5, .int .i64 0, .int .i64 5, .bool true] 26)).alloc (.cells #[.int .i64 5, .int .i64 1, .int .i64 7] 30) := by
  go_enter Tryd.func6, Tryd.ntmps6
  go_wp2
  have hb := box_alloc (heap_alloc_new w (.cells #[.int .i64 1, .int .i64 10957, .int .i64 10987, .int .i64 11000, .slice (some ⟨w.heap.size + 1, 0, none⟩) 1 1, .int .i64 5, .int .i64 0, .int .i64 5, .bool true] 26)) (.cells #[.int .i64 5, .int .i64 1, .int .i64 7] 30)
  have xl := lt_of_block hb
  exact bodyPost_ret (v := .agg #[.int .i64 1, .int .i64 10957, .int .i64 10987, .int .i64 11000, .slice (some ⟨w.heap.size + 1, 0, none⟩) 1 1, .int .i64 5, .int .i64 0, .int .i64 5, .bool true]) (by simp [results, Tryd.results6, go_sem, cell_of_cells hb]) rfl ⟨rfl, rfl⟩
set_option maxRecDepth 100000 in
set_option maxHeartbeats 12800000 in
theorem pageWrong_walk (w : World) (a : Int) (ha : (Lit.int .i64 a).wf = true) : Calls Tryd.prog 3 #[.int .i64 a] w fun e w' => e = .returned (.bool true) ∧ Below w.heap.size w w' := by
  obtain ⟨m, hm0, hm1, hm⟩ : ∃ m : Int, 0 ≤ m ∧ m < 14 ∧ (IntKind.u64.wrap a).tmod 14 = m := by
    have h2 : 0 ≤ IntKind.u64.wrap a := by simp [IntKind.wrap, IntKind.signed, IntKind.bits]; omega
    have e1 : (IntKind.u64.wrap a).tmod 14 = IntKind.u64.wrap a % 14 := Int.tmod_eq_emod_of_nonneg h2
    exact ⟨_, by rw [e1]; omega, by rw [e1]; omega, rfl⟩
  have Ha := Lib.hid ha; clear ha
  rcases (show m = 0 ∨ m = 1 ∨ m = 2 ∨ m = 3 ∨ m = 4 ∨ m = 5 ∨ m = 6 ∨ m = 7 ∨ m = 8 ∨ m = 9 ∨ m = 10 ∨ m = 11 ∨ m = 12 ∨ m = 13 by omega) with rfl | rfl | rfl | rfl | rfl | rfl | rfl | rfl | rfl | rfl | rfl | rfl | rfl | rfl
  ·
    go_enter Tryd.func3, Tryd.ntmps3
    go_wp2_with fail
    refine (one20_eq _).mono ?_
    rintro e w1 ⟨rfl, rfl⟩
    have hr1 : Reads (((w.alloc (.cells #[.int .i64 1, .int .i64 10957, .int .i64 10987, .int .i64 11000, .slice (some ⟨w.heap.size + 1, 0, none⟩) 1 1, .int .i64 5, .int .i64 0, .int .i64 5, .bool true] 26)).alloc (.cells #[.int .i64 (5), .int .i64 (1), .int .i64 (7)] 30)).alloc (.cells #[.int .i64 (0), .int .i64 (10957), .int .i64 (10987), .int .i64 (11000), .slice (some ⟨w.heap.size + 1, 0, none⟩) 1 1, .int .i64 (5), .int .i64 (0), .int .i64 (5), .bool true] 26)) 3 (.slice (some ⟨w.heap.size + 1, 0, none⟩) 1 1) 1 (([⟨5, 1, 7⟩] : List Ln).flatMap Ln.cells) := (Reads.litAt _ #[.int .i64 (5), .int .i64 (1), .int .i64 (7)] 30 3 1 _ (by simp) rfl).alloc _
    have hb1 := heap_alloc_new ((w.alloc (.cells #[.int .i64 1, .int .i64 10957, .int .i64 10987, .int .i64 11000, .slice (some ⟨w.heap.size + 1, 0, none⟩) 1 1, .int .i64 5, .int .i64 0, .int .i64 5, .bool true] 26)).alloc (.cells #[.int .i64 (5), .int .i64 (1), .int .i64 (7)] 30)) (.cells #[.int .i64 (0), .int .i64 (10957), .int .i64 (10987), .int .i64 (11000), .slice (some ⟨w.heap.size + 1, 0, none⟩) 1 1, .int .i64 (5), .int .i64 (0), .int .i64 (5), .bool true] 26)
    simp only [World.size_alloc] at hb1
    have hk0 : Keeps (fun _ => False) w (((w.alloc (.cells #[.int .i64 1, .int .i64 10957, .int .i64 10987, .int .i64 11000, .slice (some ⟨w.heap.size + 1, 0, none⟩) 1 1, .int .i64 5, .int .i64 0, .int .i64 5, .bool true] 26)).alloc (.cells #[.int .i64 (5), .int .i64 (1), .int .i64 (7)] 30)).alloc (.cells #[.int .i64 (0), .int .i64 (10957), .int .i64 (10987), .int .i64 (11000), .slice (some ⟨w.heap.size + 1, 0, none⟩) 1 1, .int .i64 (5), .int .i64 (0), .int .i64 (5), .bool true] 26)) := ((Keeps.alloc _ _).none_trans (Keeps.alloc _ _)).none_trans (Keeps.alloc _ _)
    have Hr1 := Lib.hid hr1; clear hr1; have Hb1 := Lib.hid hb1; clear hb1; have Hk0 := Lib.hid hk0; clear hk0
    go_wp2_with fail
    refine (packAt (s := ⟨0, 10957, 10987, 11000, 5, 0, 5, true, [⟨5, 1, 7⟩]⟩) rfl Hr1.out (by decide) (by decide)).mono ?_
    rintro e w2 ⟨ad2, cap2, rfl, hk2⟩
    have hb2 := box_old Hb1.out hk2 (by simp)
    have hr2 := Hr1.out.keeps hk2 (by simp)
    have Hb2 := Lib.hid hb2; clear hb2; have Hr2 := Lib.hid hr2; clear hr2; have Hk2 := Lib.hid hk2; clear hk2
    go_wp2_with fail
    refine (awake20_any _).mono ?_
    rintro e w3 ⟨rfl, hk3⟩
    have hb3 := box_old Hb2.out hk3 (by simp)
    have hr3 := Hr2.out.keeps hk3 (by simp)
    have p0 := cell_of_cells hb3 0
    have p1 := cell_of_cells hb3 1
    have p2 := cell_of_cells hb3 2
    have p3 := cell_of_cells hb3 3
    have p4 := cell_of_cells hb3 4
    have p5 := cell_of_cells hb3 5
    have p6 := cell_of_cells hb3 6
    have p7 := cell_of_cells hb3 7
    have p8 := cell_of_cells hb3 8
    have pl := lt_of_block hb3
    have Hb3 := Lib.hid hb3; clear hb3; have Hr3 := Lib.hid hr3; clear hr3; have Hk3 := Lib.hid hk3; clear hk3
    go_wp2_with fail
    refine (rightAt (s := ⟨0, 10957, 10987, 11000, 5, 0, 5, true, [⟨5, 1, 7⟩]⟩) rfl Hr3.out (by decide) (by decide)).mono ?_
    rintro e w4 ⟨rfl, hk4⟩
    have hb4 := box_old Hb3.out hk4 (by simp)
    have hr4 := Hr3.out.keeps hk4 (by simp)
    clear p0 p1 p2 p3 p4 p5 p6 p7 p8 pl
    have p0 := cell_of_cells hb4 0
    have p1 := cell_of_cells hb4 1
    have p2 := cell_of_cells hb4 2
    have p3 := cell_of_cells hb4 3
    have p4 := cell_of_cells hb4 4
    have p5 := cell_of_cells hb4 5
    have p6 := cell_of_cells hb4 6
    have p7 := cell_of_cells hb4 7
    have p8 := cell_of_cells hb4 8
    have pl := lt_of_block hb4
    have Hb4 := Lib.hid hb4; clear hb4; have Hr4 := Lib.hid hr4; clear hr4; have Hk4 := Lib.hid hk4; clear hk4
    go_wp2_with fail
    refine (textAt (s := ⟨0, 10957, 10987, 11000, 5, 0, 5, true, [⟨5, 1, 7⟩]⟩) rfl Hr4.out (by decide) (by decide)).mono ?_
    rintro e w5 ⟨rfl, hk5⟩
    have Hk5 := Lib.hid hk5; clear hk5
    go_wp2
    go_ret
    exact ⟨rfl, ((((Hk0.out.none_trans Hk2.out).none_trans Hk3.out).none_trans Hk4.out).none_trans Hk5.out).below (by simp) (Nat.le_refl _)⟩
  ·
    go_enter Tryd.func3, Tryd.ntmps3
    go_wp2_with fail
    refine (one20_eq _).mono ?_
    rintro e w1 ⟨rfl, rfl⟩
    have hr1 : Reads (((w.alloc (.cells #[.int .i64 1, .int .i64 10957, .int .i64 10987, .int .i64 11000, .slice (some ⟨w.heap.size + 1, 0, none⟩) 1 1, .int .i64 5, .int .i64 0, .int .i64 5, .bool true] 26)).alloc (.cells #[.int .i64 (5), .int .i64 (1), .int .i64 (7)] 30)).alloc (.cells #[.int .i64 (301), .int .i64 (10957), .int .i64 (10987), .int .i64 (11000), .slice (some ⟨w.heap.size + 1, 0, none⟩) 1 1, .int .i64 (5), .int .i64 (0), .int .i64 (5), .bool true] 26)) 3 (.slice (some ⟨w.heap.size + 1, 0, none⟩) 1 1) 1 (([⟨5, 1, 7⟩] : List Ln).flatMap Ln.cells) := (Reads.litAt _ #[.int .i64 (5), .int .i64 (1), .int .i64 (7)] 30 3 1 _ (by simp) rfl).alloc _
    have hb1 := heap_alloc_new ((w.alloc (.cells #[.int .i64 1, .int .i64 10957, .int .i64 10987, .int .i64 11000, .slice (some ⟨w.heap.size + 1, 0, none⟩) 1 1, .int .i64 5, .int .i64 0, .int .i64 5, .bool true] 26)).alloc (.cells #[.int .i64 (5), .int .i64 (1), .int .i64 (7)] 30)) (.cells #[.int .i64 (301), .int .i64 (10957), .int .i64 (10987), .int .i64 (11000), .slice (some ⟨w.heap.size + 1, 0, none⟩) 1 1, .int .i64 (5), .int .i64 (0), .int .i64 (5), .bool true] 26)
    simp only [World.size_alloc] at hb1
    have hk0 : Keeps (fun _ => False) w (((w.alloc (.cells #[.int .i64 1, .int .i64 10957, .int .i64 10987, .int .i64 11000, .slice (some ⟨w.heap.size + 1, 0, none⟩) 1 1, .int .i64 5, .int .i64 0, .int .i64 5, .bool true] 26)).alloc (.cells #[.int .i64 (5), .int .i64 (1), .int .i64 (7)] 30)).alloc (.cells #[.int .i64 (301), .int .i64 (10957), .int .i64 (10987), .int .i64 (11000), .slice (some ⟨w.heap.size + 1, 0, none⟩) 1 1, .int .i64 (5), .int .i64 (0), .int .i64 (5), .bool true] 26)) := ((Keeps.alloc _ _).none_trans (Keeps.alloc _ _)).none_trans (Keeps.alloc _ _)
    have Hr1 := Lib.hid hr1; clear hr1; have Hb1 := Lib.hid hb1; clear hb1; have Hk0 := Lib.hid hk0; clear hk0
    go_wp2_with fail
    refine (packAt (s := ⟨301, 10957, 10987, 11000, 5, 0, 5, true, [⟨5, 1, 7⟩]⟩) rfl Hr1.out (by decide) (by decide)).mono ?_
    rintro e w2 ⟨ad2, cap2, rfl, hk2⟩
    have hb2 := box_old Hb1.out hk2 (by simp)
    have hr2 := Hr1.out.keeps hk2 (by simp)
    have Hb2 := Lib.hid hb2; clear hb2; have Hr2 := Lib.hid hr2; clear hr2; have Hk2 := Lib.hid hk2; clear hk2
    go_wp2_with fail
    refine (awake20_any _).mono ?_
    rintro e w3 ⟨rfl, hk3⟩
    have hb3 := box_old Hb2.out hk3 (by simp)
    have hr3 := Hr2.out.keeps hk3 (by simp)
    have p0 := cell_of_cells hb3 0
    have p1 := cell_of_cells hb3 1
    have p2 := cell_of_cells hb3 2
    have p3 := cell_of_cells hb3 3
    have p4 := cell_of_cells hb3 4
    have p5 := cell_of_cells hb3 5
    have p6 := cell_of_cells hb3 6
    have p7 := cell_of_cells hb3 7
    have p8 := cell_of_cells hb3 8
    have pl := lt_of_block hb3
    have Hb3 := Lib.hid hb3; clear hb3; have Hr3 := Lib.hid hr3; clear hr3; have Hk3 := Lib.hid hk3; clear hk3
    go_wp2_with fail
    refine (rightAt (s := ⟨301, 10957, 10987, 11000, 5, 0, 5, true, [⟨5, 1, 7⟩]⟩) rfl Hr3.out (by decide) (by decide)).mono ?_
    rintro e w4 ⟨rfl, hk4⟩
    have hb4 := box_old Hb3.out hk4 (by simp)
    have hr4 := Hr3.out.keeps hk4 (by simp)
    clear p0 p1 p2 p3 p4 p5 p6 p7 p8 pl
    have p0 := cell_of_cells hb4 0
    have p1 := cell_of_cells hb4 1
    have p2 := cell_of_cells hb4 2
    have p3 := cell_of_cells hb4 3
    have p4 := cell_of_cells hb4 4
    have p5 := cell_of_cells hb4 5
    have p6 := cell_of_cells hb4 6
    have p7 := cell_of_cells hb4 7
    have p8 := cell_of_cells hb4 8
    have pl := lt_of_block hb4
    have Hb4 := Lib.hid hb4; clear hb4; have Hr4 := Lib.hid hr4; clear hr4; have Hk4 := Lib.hid hk4; clear hk4
    go_wp2_with fail
    refine (textAt (s := ⟨301, 10957, 10987, 11000, 5, 0, 5, true, [⟨5, 1, 7⟩]⟩) rfl Hr4.out (by decide) (by decide)).mono ?_
    rintro e w5 ⟨rfl, hk5⟩
    have Hk5 := Lib.hid hk5; clear hk5
    go_wp2
    go_ret
    exact ⟨rfl, ((((Hk0.out.none_trans Hk2.out).none_trans Hk3.out).none_trans Hk4.out).none_trans Hk5.out).below (by simp) (Nat.le_refl _)⟩
  ·
    go_enter Tryd.func3, Tryd.ntmps3
    go_wp2_with fail
    refine (one20_eq _).mono ?_
    rintro e w1 ⟨rfl, rfl⟩
    have hr1 : Reads (((w.alloc (.cells #[.int .i64 1, .int .i64 10957, .int .i64 10987, .int .i64 11000, .slice (some ⟨w.heap.size + 1, 0, none⟩) 1 1, .int .i64 5, .int .i64 0, .int .i64 5, .bool true] 26)).alloc (.cells #[.int .i64 (5), .int .i64 (1), .int .i64 (7)] 30)).alloc (.cells #[.int .i64 (1), .int .i64 (10988), .int .i64 (10987), .int .i64 (11000), .slice (some ⟨w.heap.size + 1, 0, none⟩) 1 1, .int .i64 (5), .int .i64 (0), .int .i64 (5), .bool true] 26)) 3 (.slice (some ⟨w.heap.size + 1, 0, none⟩) 1 1) 1 (([⟨5, 1, 7⟩] : List Ln).flatMap Ln.cells) := (Reads.litAt _ #[.int .i64 (5), .int .i64 (1), .int .i64 (7)] 30 3 1 _ (by simp) rfl).alloc _
    have hb1 := heap_alloc_new ((w.alloc (.cells #[.int .i64 1, .int .i64 10957, .int .i64 10987, .int .i64 11000, .slice (some ⟨w.heap.size + 1, 0, none⟩) 1 1, .int .i64 5, .int .i64 0, .int .i64 5, .bool true] 26)).alloc (.cells #[.int .i64 (5), .int .i64 (1), .int .i64 (7)] 30)) (.cells #[.int .i64 (1), .int .i64 (10988), .int .i64 (10987), .int .i64 (11000), .slice (some ⟨w.heap.size + 1, 0, none⟩) 1 1, .int .i64 (5), .int .i64 (0), .int .i64 (5), .bool true] 26)
    simp only [World.size_alloc] at hb1
    have hk0 : Keeps (fun _ => False) w (((w.alloc (.cells #[.int .i64 1, .int .i64 10957, .int .i64 10987, .int .i64 11000, .slice (some ⟨w.heap.size + 1, 0, none⟩) 1 1, .int .i64 5, .int .i64 0, .int .i64 5, .bool true] 26)).alloc (.cells #[.int .i64 (5), .int .i64 (1), .int .i64 (7)] 30)).alloc (.cells #[.int .i64 (1), .int .i64 (10988), .int .i64 (10987), .int .i64 (11000), .slice (some ⟨w.heap.size + 1, 0, none⟩) 1 1, .int .i64 (5), .int .i64 (0), .int .i64 (5), .bool true] 26)) := ((Keeps.alloc _ _).none_trans (Keeps.alloc _ _)).none_trans (Keeps.alloc _ _)
    have Hr1 := Lib.hid hr1; clear hr1; have Hb1 := Lib.hid hb1; clear hb1; have Hk0 := Lib.hid hk0; clear hk0
    go_wp2_with fail
    refine (packAt (s := ⟨1, 10988, 10987, 11000, 5, 0, 5, true, [⟨5, 1, 7⟩]⟩) rfl Hr1.out (by decide) (by decide)).mono ?_
    rintro e w2 ⟨ad2, cap2, rfl, hk2⟩
    have hb2 := box_old Hb1.out hk2 (by simp)
    have hr2 := Hr1.out.keeps hk2 (by simp)
    have Hb2 := Lib.hid hb2; clear hb2; have Hr2 := Lib.hid hr2; clear hr2; have Hk2 := Lib.hid hk2; clear hk2
    go_wp2_with fail
    refine (awake20_any _).mono ?_
    rintro e w3 ⟨rfl, hk3⟩
    have hb3 := box_old Hb2.out hk3 (by simp)
    have hr3 := Hr2.out.keeps hk3 (by simp)
    have p0 := cell_of_cells hb3 0
    have p1 := cell_of_cells hb3 1
    have p2 := cell_of_cells hb3 2
    have p3 := cell_of_cells hb3 3
    have p4 := cell_of_cells hb3 4
    have p5 := cell_of_cells hb3 5
    have p6 := cell_of_cells hb3 6
    have p7 := cell_of_cells hb3 7
    have p8 := cell_of_cells hb3 8
    have pl := lt_of_block hb3
    have Hb3 := Lib.hid hb3; clear hb3; have Hr3 := Lib.hid hr3; clear hr3; have Hk3 := Lib.hid hk3; clear hk3
    go_wp2_with fail
    refine (rightAt (s := ⟨1, 10988, 10987, 11000, 5, 0, 5, true, [⟨5, 1, 7⟩]⟩) rfl Hr3.out (by decide) (by decide)).mono ?_
    rintro e w4 ⟨rfl, hk4⟩
    have hb4 := box_old Hb3.out hk4 (by simp)
    have hr4 := Hr3.out.keeps hk4 (by simp)
    clear p0 p1 p2 p3 p4 p5 p6 p7 p8 pl
    have p0 := cell_of_cells hb4 0
    have p1 := cell_of_cells hb4 1
    have p2 := cell_of_cells hb4 2
    have p3 := cell_of_cells hb4 3
    have p4 := cell_of_cells hb4 4
    have p5 := cell_of_cells hb4 5
    have p6 := cell_of_cells hb4 6
    have p7 := cell_of_cells hb4 7
    have p8 := cell_of_cells hb4 8
    have pl := lt_of_block hb4
    have Hb4 := Lib.hid hb4; clear hb4; have Hr4 := Lib.hid hr4; clear hr4; have Hk4 := Lib.hid hk4; clear hk4
    go_wp2_with fail
    refine (textAt (s := ⟨1, 10988, 10987, 11000, 5, 0, 5, true, [⟨5, 1, 7⟩]⟩) rfl Hr4.out (by decide) (by decide)).mono ?_
    rintro e w5 ⟨rfl, hk5⟩
    have Hk5 := Lib.hid hk5; clear hk5
    go_wp2
    go_ret
    exact ⟨rfl, ((((Hk0.out.none_trans Hk2.out).none_trans Hk3.out).none_trans Hk4.out).none_trans Hk5.out).below (by simp) (Nat.le_refl _)⟩
  ·
    go_enter Tryd.func3, Tryd.ntmps3
    go_wp2_with fail
    refine (one20_eq _).mono ?_
    rintro e w1 ⟨rfl, rfl⟩
    have hr1 : Reads (((w.alloc (.cells #[.int .i64 1, .int .i64 10957, .int .i64 10987, .int .i64 11000, .slice (some ⟨w.heap.size + 1, 0, none⟩) 1 1, .int .i64 5, .int .i64 0, .int .i64 5, .bool true] 26)).alloc (.cells #[.int .i64 (5), .int .i64 (1), .int .i64 (7)] 30)).alloc (.cells #[.int .i64 (1), .int .i64 (10957), .int .i64 (10987), .int .i64 (10986), .slice (some ⟨w.heap.size + 1, 0, none⟩) 1 1, .int .i64 (5), .int .i64 (0), .int .i64 (5), .bool true] 26)) 3 (.slice (some ⟨w.heap.size + 1, 0, none⟩) 1 1) 1 (([⟨5, 1, 7⟩] : List Ln).flatMap Ln.cells) := (Reads.litAt _ #[.int .i64 (5), .int .i64 (1), .int .i64 (7)] 30 3 1 _ (by simp) rfl).alloc _
    have hb1 := heap_alloc_new ((w.alloc (.cells #[.int .i64 1, .int .i64 10957, .int .i64 10987, .int .i64 11000, .slice (some ⟨w.heap.size + 1, 0, none⟩) 1 1, .int .i64 5, .int .i64 0, .int .i64 5, .bool true] 26)).alloc (.cells #[.int .i64 (5), .int .i64 (1), .int .i64 (7)] 30)) (.cells #[.int .i64 (1), .int .i64 (10957), .int .i64 (10987), .int .i64 (10986), .slice (some ⟨w.heap.size + 1, 0, none⟩) 1 1, .int .i64 (5), .int .i64 (0), .int .i64 (5), .bool true] 26)
    simp only [World.size_alloc] at hb1
    have hk0 : Keeps (fun _ => False) w (((w.alloc (.cells #[.int .i64 1, .int .i64 10957, .int .i64 10987, .int .i64 11000, .slice (some ⟨w.heap.size + 1, 0, none⟩) 1 1, .int .i64 5, .int .i64 0, .int .i64 5, .bool true] 26)).alloc (.cells #[.int .i64 (5), .int .i64 (1), .int .i64 (7)] 30)).alloc (.cells #[.int .i64 (1), .int .i64 (10957), .int .i64 (10987), .int .i64 (10986), .slice (some ⟨w.heap.size + 1, 0, none⟩) 1 1, .int .i64 (5), .int .i64 (0), .int .i64 (5), .bool true] 26)) := ((Keeps.alloc _ _).none_trans (Keeps.alloc _ _)).none_trans (Keeps.alloc _ _)
    have Hr1 := Lib.hid hr1; clear hr1; have Hb1 := Lib.hid hb1; clear hb1; have Hk0 := Lib.hid hk0; clear hk0
    go_wp2_with fail
    refine (packAt (s := ⟨1, 10957, 10987, 10986, 5, 0, 5, true, [⟨5, 1, 7⟩]⟩) rfl Hr1.out (by decide) (by decide)).mono ?_
    rintro e w2 ⟨ad2, cap2, rfl, hk2⟩
    have hb2 := box_old Hb1.out hk2 (by simp)
    have hr2 := Hr1.out.keeps hk2 (by simp)
    have Hb2 := Lib.hid hb2; clear hb2; have Hr2 := Lib.hid hr2; clear hr2; have Hk2 := Lib.hid hk2; clear hk2
    go_wp2_with fail
    refine (awake20_any _).mono ?_
    rintro e w3 ⟨rfl, hk3⟩
    have hb3 := box_old Hb2.out hk3 (by simp)
    have hr3 := Hr2.out.keeps hk3 (by simp)
    have p0 := cell_of_cells hb3 0
    have p1 := cell_of_cells hb3 1
    have p2 := cell_of_cells hb3 2
    have p3 := cell_of_cells hb3 3
    have p4 := cell_of_cells hb3 4
    have p5 := cell_of_cells hb3 5
    have p6 := cell_of_cells hb3 6
    have p7 := cell_of_cells hb3 7
    have p8 := cell_of_cells hb3 8
    have pl := lt_of_block hb3
    have Hb3 := Lib.hid hb3; clear hb3; have Hr3 := Lib.hid hr3; clear hr3; have Hk3 := Lib.hid hk3; clear hk3
    go_wp2_with fail
    refine (rightAt (s := ⟨1, 10957, 10987, 10986, 5, 0, 5, true, [⟨5, 1, 7⟩]⟩) rfl Hr3.out (by decide) (by decide)).mono ?_
    rintro e w4 ⟨rfl, hk4⟩
    have hb4 := box_old Hb3.out hk4 (by simp)
    have hr4 := Hr3.out.keeps hk4 (by simp)
    clear p0 p1 p2 p3 p4 p5 p6 p7 p8 pl
    have p0 := cell_of_cells hb4 0
    have p1 := cell_of_cells hb4 1
    have p2 := cell_of_cells hb4 2
    have p3 := cell_of_cells hb4 3
    have p4 := cell_of_cells hb4 4
    have p5 := cell_of_cells hb4 5
    have p6 := cell_of_cells hb4 6
    have p7 := cell_of_cells hb4 7
    have p8 := cell_of_cells hb4 8
    have pl := lt_of_block hb4
    have Hb4 := Lib.hid hb4; clear hb4; have Hr4 := Lib.hid hr4; clear hr4; have Hk4 := Lib.hid hk4; clear hk4
    go_wp2_with fail
    refine (textAt (s := ⟨1, 10957, 10987, 10986, 5, 0, 5, true, [⟨5, 1, 7⟩]⟩) rfl Hr4.out (by decide) (by decide)).mono ?_
    rintro e w5 ⟨rfl, hk5⟩
    have Hk5 := Lib.hid hk5; clear hk5
    go_wp2
    go_ret
    exact ⟨rfl, ((((Hk0.out.none_trans Hk2.out).none_trans Hk3.out).none_trans Hk4.out).none_trans Hk5.out).below (by simp) (Nat.le_refl _)⟩
  ·
    go_enter Tryd.func3, Tryd.ntmps3
    go_wp2_with fail
    refine (one20_eq _).mono ?_
    rintro e w1 ⟨rfl, rfl⟩
    have hr1 : Reads (((w.alloc (.cells #[.int .i64 1, .int .i64 10957, .int .i64 10987, .int .i64 11000, .slice (some ⟨w.heap.size + 1, 0, none⟩) 1 1, .int .i64 5, .int .i64 0, .int .i64 5, .bool true] 26)).alloc (.cells #[.int .i64 (5), .int .i64 (1), .int .i64 (7)] 30)).alloc (.cells #[.int .i64 (1), .int .i64 (10957), .int .i64 (10987), .int .i64 (11000), .slice (some ⟨w.heap.size + 1, 0, none⟩) 1 1, .int .i64 (4), .int .i64 (0), .int .i64 (5), .bool true] 26)) 3 (.slice (some ⟨w.heap.size + 1, 0, none⟩) 1 1) 1 (([⟨5, 1, 7⟩] : List Ln).flatMap Ln.cells) := (Reads.litAt _ #[.int .i64 (5), .int .i64 (1), .int .i64 (7)] 30 3 1 _ (by simp) rfl).alloc _
    have hb1 := heap_alloc_new ((w.alloc (.cells #[.int .i64 1, .int .i64 10957, .int .i64 10987, .int .i64 11000, .slice (some ⟨w.heap.size + 1, 0, none⟩) 1 1, .int .i64 5, .int .i64 0, .int .i64 5, .bool true] 26)).alloc (.cells #[.int .i64 (5), .int .i64 (1), .int .i64 (7)] 30)) (.cells #[.int .i64 (1), .int .i64 (10957), .int .i64 (10987), .int .i64 (11000), .slice (some ⟨w.heap.size + 1, 0, none⟩) 1 1, .int .i64 (4), .int .i64 (0), .int .i64 (5), .bool true] 26)
    simp only [World.size_alloc] at hb1
    have hk0 : Keeps (fun _ => False) w (((w.alloc (.cells #[.int .i64 1, .int .i64 10957, .int .i64 10987, .int .i64 11000, .slice (some ⟨w.heap.size + 1, 0, none⟩) 1 1, .int .i64 5, .int .i64 0, .int .i64 5, .bool true] 26)).alloc (.cells #[.int .i64 (5), .int .i64 (1), .int .i64 (7)] 30)).alloc (.cells #[.int .i64 (1), .int .i64 (10957), .int .i64 (10987), .int .i64 (11000), .slice (some ⟨w.heap.size + 1, 0, none⟩) 1 1, .int .i64 (4), .int .i64 (0), .int .i64 (5), .bool true] 26)) := ((Keeps.alloc _ _).none_trans (Keeps.alloc _ _)).none_trans (Keeps.alloc _ _)
    have Hr1 := Lib.hid hr1; clear hr1; have Hb1 := Lib.hid hb1; clear hb1; have Hk0 := Lib.hid hk0; clear hk0
    go_wp2_with fail
    refine (packAt (s := ⟨1, 10957, 10987, 11000, 4, 0, 5, true, [⟨5, 1, 7⟩]⟩) rfl Hr1.out (by decide) (by decide)).mono ?_
    rintro e w2 ⟨ad2, cap2, rfl, hk2⟩
    have hb2 := box_old Hb1.out hk2 (by simp)
    have hr2 := Hr1.out.keeps hk2 (by simp)
    have Hb2 := Lib.hid hb2; clear hb2; have Hr2 := Lib.hid hr2; clear hr2; have Hk2 := Lib.hid hk2; clear hk2
    go_wp2_with fail
    refine (awake20_any _).mono ?_
    rintro e w3 ⟨rfl, hk3⟩
    have hb3 := box_old Hb2.out hk3 (by simp)
    have hr3 := Hr2.out.keeps hk3 (by simp)
    have p0 := cell_of_cells hb3 0
    have p1 := cell_of_cells hb3 1
    have p2 := cell_of_cells hb3 2
    have p3 := cell_of_cells hb3 3
    have p4 := cell_of_cells hb3 4
    have p5 := cell_of_cells hb3 5
    have p6 := cell_of_cells hb3 6
    have p7 := cell_of_cells hb3 7
    have p8 := cell_of_cells hb3 8
    have pl := lt_of_block hb3
    have Hb3 := Lib.hid hb3; clear hb3; have Hr3 := Lib.hid hr3; clear hr3; have Hk3 := Lib.hid hk3; clear hk3
    go_wp2_with fail
    refine (rightAt (s := ⟨1, 10957, 10987, 11000, 4, 0, 5, true, [⟨5, 1, 7⟩]⟩) rfl Hr3.out (by decide) (by decide)).mono ?_
    rintro e w4 ⟨rfl, hk4⟩
    have hb4 := box_old Hb3.out hk4 (by simp)
    have hr4 := Hr3.out.keeps hk4 (by simp)
    clear p0 p1 p2 p3 p4 p5 p6 p7 p8 pl
    have p0 := cell_of_cells hb4 0
    have p1 := cell_of_cells hb4 1
    have p2 := cell_of_cells hb4 2
    have p3 := cell_of_cells hb4 3
    have p4 := cell_of_cells hb4 4
    have p5 := cell_of_cells hb4 5
    have p6 := cell_of_cells hb4 6
    have p7 := cell_of_cells hb4 7
    have p8 := cell_of_cells hb4 8
    have pl := lt_of_block hb4
    have Hb4 := Lib.hid hb4; clear hb4; have Hr4 := Lib.hid hr4; clear hr4; have Hk4 := Lib.hid hk4; clear hk4
    go_wp2_with fail
    refine (textAt (s := ⟨1, 10957, 10987, 11000, 4, 0, 5, true, [⟨5, 1, 7⟩]⟩) rfl Hr4.out (by decide) (by decide)).mono ?_
    rintro e w5 ⟨rfl, hk5⟩
    have Hk5 := Lib.hid hk5; clear hk5
    go_wp2
    go_ret
    exact ⟨rfl, ((((Hk0.out.none_trans Hk2.out).none_trans Hk3.out).none_trans Hk4.out).none_trans Hk5.out).below (by simp) (Nat.le_refl _)⟩
  ·
    go_enter Tryd.func3, Tryd.ntmps3
    go_wp2_with fail
    refine (one20_eq _).mono ?_
    rintro e w1 ⟨rfl, rfl⟩
    have hr1 : Reads (((w.alloc (.cells #[.int .i64 1, .int .i64 10957, .int .i64 10987, .int .i64 11000, .slice (some ⟨w.heap.size + 1, 0, none⟩) 1 1, .int .i64 5, .int .i64 0, .int .i64 5, .bool true] 26)).alloc (.cells #[.int .i64 (5), .int .i64 (1), .int .i64 (7)] 30)).alloc (.cells #[.int .i64 (1), .int .i64 (10957), .int .i64 (10987), .int .i64 (11000), .slice (some ⟨w.heap.size + 1, 0, none⟩) 1 1, .int .i64 (5), .int .i64 (0), .int .i64 (6), .bool true] 26)) 3 (.slice (some ⟨w.heap.size + 1, 0, none⟩) 1 1) 1 (([⟨5, 1, 7⟩] : List Ln).flatMap Ln.cells) := (Reads.litAt _ #[.int .i64 (5), .int .i64 (1), .int .i64 (7)] 30 3 1 _ (by simp) rfl).alloc _
    have hb1 := heap_alloc_new ((w.alloc (.cells #[.int .i64 1, .int .i64 10957, .int .i64 10987, .int .i64 11000, .slice (some ⟨w.heap.size + 1, 0, none⟩) 1 1, .int .i64 5, .int .i64 0, .int .i64 5, .bool true] 26)).alloc (.cells #[.int .i64 (5), .int .i64 (1), .int .i64 (7)] 30)) (.cells #[.int .i64 (1), .int .i64 (10957), .int .i64 (10987), .int .i64 (11000), .slice (some ⟨w.heap.size + 1, 0, none⟩) 1 1, .int .i64 (5), .int .i64 (0), .int .i64 (6), .bool true] 26)
    simp only [World.size_alloc] at hb1
    have hk0 : Keeps (fun _ => False) w (((w.alloc (.cells #[.int .i64 1, .int .i64 10957, .int .i64 10987, .int .i64 11000, .slice (some ⟨w.heap.size + 1, 0, none⟩) 1 1, .int .i64 5, .int .i64 0, .int .i64 5, .bool true] 26)).alloc (.cells #[.int .i64 (5), .int .i64 (1), .int .i64 (7)] 30)).alloc (.cells #[.int .i64 (1), .int .i64 (10957), .int .i64 (10987), .int .i64 (11000), .slice (some ⟨w.heap.size + 1, 0, none⟩) 1 1, .int .i64 (5), .int .i64 (0), .int .i64 (6), .bool true] 26)) := ((Keeps.alloc _ _).none_trans (Keeps.alloc _ _)).none_trans (Keeps.alloc _ _)
    have Hr1 := Lib.hid hr1; clear hr1; have Hb1 := Lib.hid hb1; clear hb1; have Hk0 := Lib.hid hk0; clear hk0
    go_wp2_with fail
    refine (packAt (s := ⟨1, 10957, 10987, 11000, 5, 0, 6, true, [⟨5, 1, 7⟩]⟩) rfl Hr1.out (by decide) (by decide)).mono ?_
    rintro e w2 ⟨ad2, cap2, rfl, hk2⟩
    have hb2 := box_old Hb1.out hk2 (by simp)
    have hr2 := Hr1.out.keeps hk2 (by simp)
    have Hb2 := Lib.hid hb2; clear hb2; have Hr2 := Lib.hid hr2; clear hr2; have Hk2 := Lib.hid hk2; clear hk2
    go_wp2_with fail
    refine (awake20_any _).mono ?_
    rintro e w3 ⟨rfl, hk3⟩
    have hb3 := box_old Hb2.out hk3 (by simp)
    have hr3 := Hr2.out.keeps hk3 (by simp)
    have p0 := cell_of_cells hb3 0
    have p1 := cell_of_cells hb3 1
    have p2 := cell_of_cells hb3 2
    have p3 := cell_of_cells hb3 3
    have p4 := cell_of_cells hb3 4
    have p5 := cell_of_cells hb3 5
    have p6 := cell_of_cells hb3 6
    have p7 := cell_of_cells hb3 7
    have p8 := cell_of_cells hb3 8
    have pl := lt_of_block hb3
    have Hb3 := Lib.hid hb3; clear hb3; have Hr3 := Lib.hid hr3; clear hr3; have Hk3 := Lib.hid hk3; clear hk3
    go_wp2_with fail
    refine (rightAt (s := ⟨1, 10957, 10987, 11000, 5, 0, 6, true, [⟨5, 1, 7⟩]⟩) rfl Hr3.out (by decide) (by decide)).mono ?_
    rintro e w4 ⟨rfl, hk4⟩
    have hb4 := box_old Hb3.out hk4 (by simp)
    have hr4 := Hr3.out.keeps hk4 (by simp)
    clear p0 p1 p2 p3 p4 p5 p6 p7 p8 pl
    have p0 := cell_of_cells hb4 0
    have p1 := cell_of_cells hb4 1
    have p2 := cell_of_cells hb4 2
    have p3 := cell_of_cells hb4 3
    have p4 := cell_of_cells hb4 4
    have p5 := cell_of_cells hb4 5
    have p6 := cell_of_cells hb4 6
    have p7 := cell_of_cells hb4 7
    have p8 := cell_of_cells hb4 8
    have pl := lt_of_block hb4
    have Hb4 := Lib.hid hb4; clear hb4; have Hr4 := Lib.hid hr4; clear hr4; have Hk4 := Lib.hid hk4; clear hk4
    go_wp2_with fail
    refine (textAt (s := ⟨1, 10957, 10987, 11000, 5, 0, 6, true, [⟨5, 1, 7⟩]⟩) rfl Hr4.out (by decide) (by decide)).mono ?_
    rintro e w5 ⟨rfl, hk5⟩
    have Hk5 := Lib.hid hk5; clear hk5
    go_wp2
    go_ret
    exact ⟨rfl, ((((Hk0.out.none_trans Hk2.out).none_trans Hk3.out).none_trans Hk4.out).none_trans Hk5.out).below (by simp) (Nat.le_refl _)⟩
  ·
    go_enter Tryd.func3, Tryd.ntmps3
    go_wp2_with fail
    refine (one20_eq _).mono ?_
    rintro e w1 ⟨rfl, rfl⟩
    have hr1 : Reads (((w.alloc (.cells #[.int .i64 1, .int .i64 10957, .int .i64 10987, .int .i64 11000, .slice (some ⟨w.heap.size + 1, 0, none⟩) 1 1, .int .i64 5, .int .i64 0, .int .i64 5, .bool true] 26)).alloc (.cells #[.int .i64 (5), .int .i64 (1), .int .i64 (7)] 30)).alloc (.cells #[.int .i64 (1), .int .i64 (10957), .int .i64 (10987), .int .i64 (11000), .slice (some ⟨w.heap.size + 1, 0, none⟩) 1 1, .int .i64 (5), .int .i64 (-1), .int .i64 (5), .bool true] 26)) 3 (.slice (some ⟨w.heap.size + 1, 0, none⟩) 1 1) 1 (([⟨5, 1, 7⟩] : List Ln).flatMap Ln.cells) := (Reads.litAt _ #[.int .i64 (5), .int .i64 (1), .int .i64 (7)] 30 3 1 _ (by simp) rfl).alloc _
    have hb1 := heap_alloc_new ((w.alloc (.cells #[.int .i64 1, .int .i64 10957, .int .i64 10987, .int .i64 11000, .slice (some ⟨w.heap.size + 1, 0, none⟩) 1 1, .int .i64 5, .int .i64 0, .int .i64 5, .bool true] 26)).alloc (.cells #[.int .i64 (5), .int .i64 (1), .int .i64 (7)] 30)) (.cells #[.int .i64 (1), .int .i64 (10957), .int .i64 (10987), .int .i64 (11000), .slice (some ⟨w.heap.size + 1, 0, none⟩) 1 1, .int .i64 (5), .int .i64 (-1), .int .i64 (5), .bool true] 26)
    simp only [World.size_alloc] at hb1
    have hk0 : Keeps (fun _ => False) w (((w.alloc (.cells #[.int .i64 1, .int .i64 10957, .int .i64 10987, .int .i64 11000, .slice (some ⟨w.heap.size + 1, 0, none⟩) 1 1, .int .i64 5, .int .i64 0, .int .i64 5, .bool true] 26)).alloc (.cells #[.int .i64 (5), .int .i64 (1), .int .i64 (7)] 30)).alloc (.cells #[.int .i64 (1), .int .i64 (10957), .int .i64 (10987), .int .i64 (11000), .slice (some ⟨w.heap.size + 1, 0, none⟩) 1 1, .int .i64 (5), .int .i64 (-1), .int .i64 (5), .bool true] 26)) := ((Keeps.alloc _ _).none_trans (Keeps.alloc _ _)).none_trans (Keeps.alloc _ _)
    have Hr1 := Lib.hid hr1; clear hr1; have Hb1 := Lib.hid hb1; clear hb1; have Hk0 := Lib.hid hk0; clear hk0
    go_wp2_with fail
    refine (packAt (s := ⟨1, 10957, 10987, 11000, 5, -1, 5, true, [⟨5, 1, 7⟩]⟩) rfl Hr1.out (by decide) (by decide)).mono ?_
    rintro e w2 ⟨ad2, cap2, rfl, hk2⟩
    have hb2 := box_old Hb1.out hk2 (by simp)
    have hr2 := Hr1.out.keeps hk2 (by simp)
    have Hb2 := Lib.hid hb2; clear hb2; have Hr2 := Lib.hid hr2; clear hr2; have Hk2 := Lib.hid hk2; clear hk2
    go_wp2_with fail
    refine (awake20_any _).mono ?_
    rintro e w3 ⟨rfl, hk3⟩
    have hb3 := box_old Hb2.out hk3 (by simp)
    have hr3 := Hr2.out.keeps hk3 (by simp)
    have p0 := cell_of_cells hb3 0
    have p1 := cell_of_cells hb3 1
    have p2 := cell_of_cells hb3 2
    have p3 := cell_of_cells hb3 3
    have p4 := cell_of_cells hb3 4
    have p5 := cell_of_cells hb3 5
    have p6 := cell_of_cells hb3 6
    have p7 := cell_of_cells hb3 7
    have p8 := cell_of_cells hb3 8
    have pl := lt_of_block hb3
    have Hb3 := Lib.hid hb3; clear hb3; have Hr3 := Lib.hid hr3; clear hr3; have Hk3 := Lib.hid hk3; clear hk3
    go_wp2_with fail
    refine (rightAt (s := ⟨1, 10957, 10987, 11000, 5, -1, 5, true, [⟨5, 1, 7⟩]⟩) rfl Hr3.out (by decide) (by decide)).mono ?_
    rintro e w4 ⟨rfl, hk4⟩
    have hb4 := box_old Hb3.out hk4 (by simp)
    have hr4 := Hr3.out.keeps hk4 (by simp)
    clear p0 p1 p2 p3 p4 p5 p6 p7 p8 pl
    have p0 := cell_of_cells hb4 0
    have p1 := cell_of_cells hb4 1
    have p2 := cell_of_cells hb4 2
    have p3 := cell_of_cells hb4 3
    have p4 := cell_of_cells hb4 4
    have p5 := cell_of_cells hb4 5
    have p6 := cell_of_cells hb4 6
    have p7 := cell_of_cells hb4 7
    have p8 := cell_of_cells hb4 8
    have pl := lt_of_block hb4
    have Hb4 := Lib.hid hb4; clear hb4; have Hr4 := Lib.hid hr4; clear hr4; have Hk4 := Lib.hid hk4; clear hk4
    go_wp2_with fail
    refine (textAt (s := ⟨1, 10957, 10987, 11000, 5, -1, 5, true, [⟨5, 1, 7⟩]⟩) rfl Hr4.out (by decide) (by decide)).mono ?_
    rintro e w5 ⟨rfl, hk5⟩
    have Hk5 := Lib.hid hk5; clear hk5
    go_wp2
    go_ret
    exact ⟨rfl, ((((Hk0.out.none_trans Hk2.out).none_trans Hk3.out).none_trans Hk4.out).none_trans Hk5.out).below (by simp) (Nat.le_refl _)⟩
  · go_enter Tryd.func3, Tryd.ntmps3
    go_wp2_with fail
    refine (one20_eq _).mono ?_
    rintro e w1 ⟨rfl, rfl⟩
    have hr1 : Reads (((w.alloc (.cells #[.int .i64 1, .int .i64 10957, .int .i64 10987, .int .i64 11000, .slice (some ⟨w.heap.size + 1, 0, none⟩) 1 1, .int .i64 5, .int .i64 0, .int .i64 5, .bool true] 26)).alloc (.cells #[.int .i64 5, .int .i64 1, .int .i64 7] 30)).alloc (.cells #[.int .i64 1, .int .i64 10957, .int .i64 10987, .int .i64 11000, .slice none 0 0, .int .i64 5, .int .i64 0, .int .i64 5, .bool true] 26)) 3 (.slice none 0 0) 0 (([] : List Ln).flatMap Ln.cells) := Reads.nil _ _
    have hb1 := heap_alloc_new ((w.alloc (.cells #[.int .i64 1, .int .i64 10957, .int .i64 10987, .int .i64 11000, .slice (some ⟨w.heap.size + 1, 0, none⟩) 1 1, .int .i64 5, .int .i64 0, .int .i64 5, .bool true] 26)).alloc (.cells #[.int .i64 5, .int .i64 1, .int .i64 7] 30)) (.cells #[.int .i64 1, .int .i64 10957, .int .i64 10987, .int .i64 11000, .slice none 0 0, .int .i64 5, .int .i64 0, .int .i64 5, .bool true] 26)
    simp only [World.size_alloc] at hb1
    have hk0 : Keeps (fun _ => False) w (((w.alloc (.cells #[.int .i64 1, .int .i64 10957, .int .i64 10987, .int .i64 11000, .slice (some ⟨w.heap.size + 1, 0, none⟩) 1 1, .int .i64 5, .int .i64 0, .int .i64 5, .bool true] 26)).alloc (.cells #[.int .i64 5, .int .i64 1, .int .i64 7] 30)).alloc (.cells #[.int .i64 1, .int .i64 10957, .int .i64 10987, .int .i64 11000, .slice none 0 0, .int .i64 5, .int .i64 0, .int .i64 5, .bool true] 26)) := ((Keeps.alloc _ _).none_trans (Keeps.alloc _ _)).none_trans (Keeps.alloc _ _)
    have Hr1 := Lib.hid hr1; clear hr1; have Hb1 := Lib.hid hb1; clear hb1; have Hk0 := Lib.hid hk0; clear hk0
    go_wp2_with fail
    refine (packAt (s := ⟨1, 10957, 10987, 11000, 5, 0, 5, true, []⟩) rfl Hr1.out (by decide) (by decide)).mono ?_
    rintro e w2 ⟨ad2, cap2, rfl, hk2⟩
    have hb2 := box_old Hb1.out hk2 (by simp)
    have hr2 := Hr1.out.keeps hk2 (by simp)
    have Hb2 := Lib.hid hb2; clear hb2; have Hr2 := Lib.hid hr2; clear hr2; have Hk2 := Lib.hid hk2; clear hk2
    go_wp2_with fail
    refine (awake20_any _).mono ?_
    rintro e w3 ⟨rfl, hk3⟩
    have hb3 := box_old Hb2.out hk3 (by simp)
    have hr3 := Hr2.out.keeps hk3 (by simp)
    have p0 := cell_of_cells hb3 0
    have p1 := cell_of_cells hb3 1
    have p2 := cell_of_cells hb3 2
    have p3 := cell_of_cells hb3 3
    have p4 := cell_of_cells hb3 4
    have p5 := cell_of_cells hb3 5
    have p6 := cell_of_cells hb3 6
    have p7 := cell_of_cells hb3 7
    have p8 := cell_of_cells hb3 8
    have pl := lt_of_block hb3
    have Hb3 := Lib.hid hb3; clear hb3; have Hr3 := Lib.hid hr3; clear hr3; have Hk3 := Lib.hid hk3; clear hk3
    go_wp2_with fail
    refine (rightAt (s := ⟨1, 10957, 10987, 11000, 5, 0, 5, true, []⟩) rfl Hr3.out (by decide) (by decide)).mono ?_
    rintro e w4 ⟨rfl, hk4⟩
    have hb4 := box_old Hb3.out hk4 (by simp)
    have hr4 := Hr3.out.keeps hk4 (by simp)
    clear p0 p1 p2 p3 p4 p5 p6 p7 p8 pl
    have p0 := cell_of_cells hb4 0
    have p1 := cell_of_cells hb4 1
    have p2 := cell_of_cells hb4 2
    have p3 := cell_of_cells hb4 3
    have p4 := cell_of_cells hb4 4
    have p5 := cell_of_cells hb4 5
    have p6 := cell_of_cells hb4 6
    have p7 := cell_of_cells hb4 7
    have p8 := cell_of_cells hb4 8
    have pl := lt_of_block hb4
    have Hb4 := Lib.hid hb4; clear hb4; have Hr4 := Lib.hid hr4; clear hr4; have Hk4 := Lib.hid hk4; clear hk4
    go_wp2_with fail
    refine (textAt (s := ⟨1, 10957, 10987, 11000, 5, 0, 5, true, []⟩) rfl Hr4.out (by decide) (by decide)).mono ?_
    rintro e w5 ⟨rfl, hk5⟩
    have Hk5 := Lib.hid hk5; clear hk5
    go_wp2
    go_ret
    exact ⟨rfl, ((((Hk0.out.none_trans Hk2.out).none_trans Hk3.out).none_trans Hk4.out).none_trans Hk5.out).below (by simp) (Nat.le_refl _)⟩
  · obtain ⟨i0, hi, hi0, hi1, hi2⟩ := info_parts info_tLine
    have hmk := fun (W : World) => run_makeSlice (P := Tryd.prog) W 24 30 i0 (.agg #[.int .i64 0, .int .i64 0, .int .i64 0]) Tryd.underlying24 hi hi0 .i64 .i64 9 9 (by omega) (by omega) (by rw [hi1]; omega) (by rw [hi2]; omega) (by omega)
    have hn9 : ((9 : Int)).toNat = 9 := rfl
    simp only [hn9, hi1] at hmk
    obtain ⟨Z, hZ⟩ : ∃ Z, Z = madeCells (Value.agg #[.int .i64 0, .int .i64 0, .int .i64 0]).cells (9 * 3) := ⟨_, rfl⟩
    have hZl : Z.toList = (List.replicate 9 (⟨0, 0, 0⟩ : Ln)).flatMap Ln.cells := by rw [hZ]; kernel_rfl
    have hZs : Z.size = 9 * 3 := by rw [← Array.length_toList, hZl]; rfl
    rw [← hZ] at hmk
    have hr1 : Reads ((((w.alloc (.cells #[.int .i64 1, .int .i64 10957, .int .i64 10987, .int .i64 11000, .slice (some ⟨w.heap.size + 1, 0, none⟩) 1 1, .int .i64 5, .int .i64 0, .int .i64 5, .bool true] 26)).alloc (.cells #[.int .i64 5, .int .i64 1, .int .i64 7] 30)).alloc (.cells #[.int .i64 1, .int .i64 10957, .int .i64 10987, .int .i64 11000, .slice (some ⟨w.heap.size + 1 + 1 + 1, 0, none⟩) 9 9, .int .i64 5, .int .i64 0, .int .i64 5, .bool true] 26)).alloc (.cells Z 30)) 3 (.slice (some ⟨w.heap.size + 1 + 1 + 1, 0, none⟩) 9 9) 9 ((List.replicate 9 (⟨0, 0, 0⟩ : Ln)).flatMap Ln.cells) := by rw [← hZl]; exact Reads.litAt _ Z 30 3 9 _ (by simp) hZs
    have hb1 := box_alloc (heap_alloc_new ((w.alloc (.cells #[.int .i64 1, .int .i64 10957, .int .i64 10987, .int .i64 11000, .slice (some ⟨w.heap.size + 1, 0, none⟩) 1 1, .int .i64 5, .int .i64 0, .int .i64 5, .bool true] 26)).alloc (.cells #[.int .i64 5, .int .i64 1, .int .i64 7] 30)) (.cells #[.int .i64 1, .int .i64 10957, .int .i64 10987, .int .i64 11000, .slice (some ⟨w.heap.size + 1 + 1 + 1, 0, none⟩) 9 9, .int .i64 5, .int .i64 0, .int .i64 5, .bool true] 26)) (.cells Z 30)
    simp only [World.size_alloc] at hb1
    have hk0 : Keeps (fun _ => False) w ((((w.alloc (.cells #[.int .i64 1, .int .i64 10957, .int .i64 10987, .int .i64 11000, .slice (some ⟨w.heap.size + 1, 0, none⟩) 1 1, .int .i64 5, .int .i64 0, .int .i64 5, .bool true] 26)).alloc (.cells #[.int .i64 5, .int .i64 1, .int .i64 7] 30)).alloc (.cells #[.int .i64 1, .int .i64 10957, .int .i64 10987, .int .i64 11000, .slice (some ⟨w.heap.size + 1 + 1 + 1, 0, none⟩) 9 9, .int .i64 5, .int .i64 0, .int .i64 5, .bool true] 26)).alloc (.cells Z 30)) := (((Keeps.alloc _ _).none_trans (Keeps.alloc _ _)).none_trans (Keeps.alloc _ _)).none_trans (Keeps.alloc _ _)
    have Hr1 := Lib.hid hr1; clear hr1; have Hb1 := Lib.hid hb1; clear hb1; have Hk0 := Lib.hid hk0; clear hk0; have HZ := Lib.hid hZ; clear hZ; have HZl := Lib.hid hZl; clear hZl; have HZs := Lib.hid hZs; clear hZs
    go_enter Tryd.func3, Tryd.ntmps3
    go_wp2_with fail
    refine (one20_eq _).mono ?_
    rintro e w1 ⟨rfl, rfl⟩
    go_wp2_with fail
    refine (packAt (s := ⟨1, 10957, 10987, 11000, 5, 0, 5, true, List.replicate 9 ⟨0, 0, 0⟩⟩) rfl Hr1.out (by decide) (by decide)).mono ?_
    rintro e w2 ⟨ad2, cap2, rfl, hk2⟩
    have hb2 := box_old Hb1.out hk2 (by simp)
    have hr2 := Hr1.out.keeps hk2 (by simp)
    have Hb2 := Lib.hid hb2; clear hb2; have Hr2 := Lib.hid hr2; clear hr2; have Hk2 := Lib.hid hk2; clear hk2
    go_wp2_with fail
    refine (awake20_any _).mono ?_
    rintro e w3 ⟨rfl, hk3⟩
    have hb3 := box_old Hb2.out hk3 (by simp)
    have hr3 := Hr2.out.keeps hk3 (by simp)
    have p0 := cell_of_cells hb3 0
    have p1 := cell_of_cells hb3 1
    have p2 := cell_of_cells hb3 2
    have p3 := cell_of_cells hb3 3
    have p4 := cell_of_cells hb3 4
    have p5 := cell_of_cells hb3 5
    have p6 := cell_of_cells hb3 6
    have p7 := cell_of_cells hb3 7
    have p8 := cell_of_cells hb3 8
    have pl := lt_of_block hb3
    have Hb3 := Lib.hid hb3; clear hb3; have Hr3 := Lib.hid hr3; clear hr3; have Hk3 := Lib.hid hk3; clear hk3
    go_wp2_with fail
    refine (rightAt (s := ⟨1, 10957, 10987, 11000, 5, 0, 5, true, List.replicate 9 ⟨0, 0, 0⟩⟩) rfl Hr3.out (by decide) (by decide)).mono ?_
    rintro e w4 ⟨rfl, hk4⟩
    have hb4 := box_old Hb3.out hk4 (by simp)
    have hr4 := Hr3.out.keeps hk4 (by simp)
    clear p0 p1 p2 p3 p4 p5 p6 p7 p8 pl
    have p0 := cell_of_cells hb4 0
    have p1 := cell_of_cells hb4 1
    have p2 := cell_of_cells hb4 2
    have p3 := cell_of_cells hb4 3
    have p4 := cell_of_cells hb4 4
    have p5 := cell_of_cells hb4 5
    have p6 := cell_of_cells hb4 6
    have p7 := cell_of_cells hb4 7
    have p8 := cell_of_cells hb4 8
    have pl := lt_of_block hb4
    have Hb4 := Lib.hid hb4; clear hb4; have Hr4 := Lib.hid hr4; clear hr4; have Hk4 := Lib.hid hk4; clear hk4
    go_wp2_with fail
    refine (textAt (s := ⟨1, 10957, 10987, 11000, 5, 0, 5, true, List.replicate 9 ⟨0, 0, 0⟩⟩) rfl Hr4.out (by decide) (by decide)).mono ?_
    rintro e w5 ⟨rfl, hk5⟩
    have Hk5 := Lib.hid hk5; clear hk5
    go_wp2
    go_ret
    exact ⟨rfl, ((((Hk0.out.none_trans Hk2.out).none_trans Hk3.out).none_trans Hk4.out).none_trans Hk5.out).below (by simp) (Nat.le_refl _)⟩
  ·
    go_enter Tryd.func3, Tryd.ntmps3
    go_wp2_with fail
    refine (one20_eq _).mono ?_
    rintro e w1 ⟨rfl, rfl⟩
    have hr1 : Reads (((w.alloc (.cells #[.int .i64 1, .int .i64 10957, .int .i64 10987, .int .i64 11000, .slice (some ⟨w.heap.size + 1, 0, none⟩) 1 1, .int .i64 5, .int .i64 0, .int .i64 5, .bool true] 26)).alloc (.cells #[.int .i64 (5), .int .i64 (1), .int .i64 (10000001)] 30)).alloc (.cells #[.int .i64 (1), .int .i64 (10957), .int .i64 (10987), .int .i64 (11000), .slice (some ⟨w.heap.size + 1, 0, none⟩) 1 1, .int .i64 (5), .int .i64 (0), .int .i64 (5), .bool true] 26)) 3 (.slice (some ⟨w.heap.size + 1, 0, none⟩) 1 1) 1 (([⟨5, 1, 10000001⟩] : List Ln).flatMap Ln.cells) := (Reads.litAt _ #[.int .i64 (5), .int .i64 (1), .int .i64 (10000001)] 30 3 1 _ (by simp) rfl).alloc _
    have hb1 := heap_alloc_new ((w.alloc (.cells #[.int .i64 1, .int .i64 10957, .int .i64 10987, .int .i64 11000, .slice (some ⟨w.heap.size + 1, 0, none⟩) 1 1, .int .i64 5, .int .i64 0, .int .i64 5, .bool true] 26)).alloc (.cells #[.int .i64 (5), .int .i64 (1), .int .i64 (10000001)] 30)) (.cells #[.int .i64 (1), .int .i64 (10957), .int .i64 (10987), .int .i64 (11000), .slice (some ⟨w.heap.size + 1, 0, none⟩) 1 1, .int .i64 (5), .int .i64 (0), .int .i64 (5), .bool true] 26)
    simp only [World.size_alloc] at hb1
    have hk0 : Keeps (fun _ => False) w (((w.alloc (.cells #[.int .i64 1, .int .i64 10957, .int .i64 10987, .int .i64 11000, .slice (some ⟨w.heap.size + 1, 0, none⟩) 1 1, .int .i64 5, .int .i64 0, .int .i64 5, .bool true] 26)).alloc (.cells #[.int .i64 (5), .int .i64 (1), .int .i64 (10000001)] 30)).alloc (.cells #[.int .i64 (1), .int .i64 (10957), .int .i64 (10987), .int .i64 (11000), .slice (some ⟨w.heap.size + 1, 0, none⟩) 1 1, .int .i64 (5), .int .i64 (0), .int .i64 (5), .bool true] 26)) := ((Keeps.alloc _ _).none_trans (Keeps.alloc _ _)).none_trans (Keeps.alloc _ _)
    have Hr1 := Lib.hid hr1; clear hr1; have Hb1 := Lib.hid hb1; clear hb1; have Hk0 := Lib.hid hk0; clear hk0
    go_wp2_with fail
    refine (packAt (s := ⟨1, 10957, 10987, 11000, 5, 0, 5, true, [⟨5, 1, 10000001⟩]⟩) rfl Hr1.out (by decide) (by decide)).mono ?_
    rintro e w2 ⟨ad2, cap2, rfl, hk2⟩
    have hb2 := box_old Hb1.out hk2 (by simp)
    have hr2 := Hr1.out.keeps hk2 (by simp)
    have Hb2 := Lib.hid hb2; clear hb2; have Hr2 := Lib.hid hr2; clear hr2; have Hk2 := Lib.hid hk2; clear hk2
    go_wp2_with fail
    refine (awake20_any _).mono ?_
    rintro e w3 ⟨rfl, hk3⟩
    have hb3 := box_old Hb2.out hk3 (by simp)
    have hr3 := Hr2.out.keeps hk3 (by simp)
    have p0 := cell_of_cells hb3 0
    have p1 := cell_of_cells hb3 1
    have p2 := cell_of_cells hb3 2
    have p3 := cell_of_cells hb3 3
    have p4 := cell_of_cells hb3 4
    have p5 := cell_of_cells hb3 5
    have p6 := cell_of_cells hb3 6
    have p7 := cell_of_cells hb3 7
    have p8 := cell_of_cells hb3 8
    have pl := lt_of_block hb3
    have Hb3 := Lib.hid hb3; clear hb3; have Hr3 := Lib.hid hr3; clear hr3; have Hk3 := Lib.hid hk3; clear hk3
    go_wp2_with fail
    refine (rightAt (s := ⟨1, 10957, 10987, 11000, 5, 0, 5, true, [⟨5, 1, 10000001⟩]⟩) rfl Hr3.out (by decide) (by decide)).mono ?_
    rintro e w4 ⟨rfl, hk4⟩
    have hb4 := box_old Hb3.out hk4 (by simp)
    have hr4 := Hr3.out.keeps hk4 (by simp)
    clear p0 p1 p2 p3 p4 p5 p6 p7 p8 pl
    have p0 := cell_of_cells hb4 0
    have p1 := cell_of_cells hb4 1
    have p2 := cell_of_cells hb4 2
    have p3 := cell_of_cells hb4 3
    have p4 := cell_of_cells hb4 4
    have p5 := cell_of_cells hb4 5
    have p6 := cell_of_cells hb4 6
    have p7 := cell_of_cells hb4 7
    have p8 := cell_of_cells hb4 8
    have pl := lt_of_block hb4
    have Hb4 := Lib.hid hb4; clear hb4; have Hr4 := Lib.hid hr4; clear hr4; have Hk4 := Lib.hid hk4; clear hk4
    go_wp2_with fail
    refine (textAt (s := ⟨1, 10957, 10987, 11000, 5, 0, 5, true, [⟨5, 1, 10000001⟩]⟩) rfl Hr4.out (by decide) (by decide)).mono ?_
    rintro e w5 ⟨rfl, hk5⟩
    have Hk5 := Lib.hid hk5; clear hk5
    go_wp2
    go_ret
    exact ⟨rfl, ((((Hk0.out.none_trans Hk2.out).none_trans Hk3.out).none_trans Hk4.out).none_trans Hk5.out).below (by simp) (Nat.le_refl _)⟩
  ·
    go_enter Tryd.func3, Tryd.ntmps3
    go_wp2_with fail
    refine (one20_eq _).mono ?_
    rintro e w1 ⟨rfl, rfl⟩
    have hr1 : Reads (((w.alloc (.cells #[.int .i64 1, .int .i64 10957, .int .i64 10987, .int .i64 11000, .slice (some ⟨w.heap.size + 1, 0, none⟩) 1 1, .int .i64 5, .int .i64 0, .int .i64 5, .bool true] 26)).alloc (.cells #[.int .i64 (5), .int .i64 (-1), .int .i64 (7)] 30)).alloc (.cells #[.int .i64 (1), .int .i64 (10957), .int .i64 (10987), .int .i64 (11000), .slice (some ⟨w.heap.size + 1, 0, none⟩) 1 1, .int .i64 (5), .int .i64 (0), .int .i64 (5), .bool true] 26)) 3 (.slice (some ⟨w.heap.size + 1, 0, none⟩) 1 1) 1 (([⟨5, -1, 7⟩] : List Ln).flatMap Ln.cells) := (Reads.litAt _ #[.int .i64 (5), .int .i64 (-1), .int .i64 (7)] 30 3 1 _ (by simp) rfl).alloc _
    have hb1 := heap_alloc_new ((w.alloc (.cells #[.int .i64 1, .int .i64 10957, .int .i64 10987, .int .i64 11000, .slice (some ⟨w.heap.size + 1, 0, none⟩) 1 1, .int .i64 5, .int .i64 0, .int .i64 5, .bool true] 26)).alloc (.cells #[.int .i64 (5), .int .i64 (-1), .int .i64 (7)] 30)) (.cells #[.int .i64 (1), .int .i64 (10957), .int .i64 (10987), .int .i64 (11000), .slice (some ⟨w.heap.size + 1, 0, none⟩) 1 1, .int .i64 (5), .int .i64 (0), .int .i64 (5), .bool true] 26)
    simp only [World.size_alloc] at hb1
    have hk0 : Keeps (fun _ => False) w (((w.alloc (.cells #[.int .i64 1, .int .i64 10957, .int .i64 10987, .int .i64 11000, .slice (some ⟨w.heap.size + 1, 0, none⟩) 1 1, .int .i64 5, .int .i64 0, .int .i64 5, .bool true] 26)).alloc (.cells #[.int .i64 (5), .int .i64 (-1), .int .i64 (7)] 30)).alloc (.cells #[.int .i64 (1), .int .i64 (10957), .int .i64 (10987), .int .i64 (11000), .slice (some ⟨w.heap.size + 1, 0, none⟩) 1 1, .int .i64 (5), .int .i64 (0), .int .i64 (5), .bool true] 26)) := ((Keeps.alloc _ _).none_trans (Keeps.alloc _ _)).none_trans (Keeps.alloc _ _)
    have Hr1 := Lib.hid hr1; clear hr1; have Hb1 := Lib.hid hb1; clear hb1; have Hk0 := Lib.hid hk0; clear hk0
    go_wp2_with fail
    refine (packAt (s := ⟨1, 10957, 10987, 11000, 5, 0, 5, true, [⟨5, -1, 7⟩]⟩) rfl Hr1.out (by decide) (by decide)).mono ?_
    rintro e w2 ⟨ad2, cap2, rfl, hk2⟩
    have hb2 := box_old Hb1.out hk2 (by simp)
    have hr2 := Hr1.out.keeps hk2 (by simp)
    have Hb2 := Lib.hid hb2; clear hb2; have Hr2 := Lib.hid hr2; clear hr2; have Hk2 := Lib.hid hk2; clear hk2
    go_wp2_with fail
    refine (awake20_any _).mono ?_
    rintro e w3 ⟨rfl, hk3⟩
    have hb3 := box_old Hb2.out hk3 (by simp)
    have hr3 := Hr2.out.keeps hk3 (by simp)
    have p0 := cell_of_cells hb3 0
    have p1 := cell_of_cells hb3 1
    have p2 := cell_of_cells hb3 2
    have p3 := cell_of_cells hb3 3
    have p4 := cell_of_cells hb3 4
    have p5 := cell_of_cells hb3 5
    have p6 := cell_of_cells hb3 6
    have p7 := cell_of_cells hb3 7
    have p8 := cell_of_cells hb3 8
    have pl := lt_of_block hb3
    have Hb3 := Lib.hid hb3; clear hb3; have Hr3 := Lib.hid hr3; clear hr3; have Hk3 := Lib.hid hk3; clear hk3
    go_wp2_with fail
    refine (rightAt (s := ⟨1, 10957, 10987, 11000, 5, 0, 5, true, [⟨5, -1, 7⟩]⟩) rfl Hr3.out (by decide) (by decide)).mono ?_
    rintro e w4 ⟨rfl, hk4⟩
    have hb4 := box_old Hb3.out hk4 (by simp)
    have hr4 := Hr3.out.keeps hk4 (by simp)
    clear p0 p1 p2 p3 p4 p5 p6 p7 p8 pl
    have p0 := cell_of_cells hb4 0
    have p1 := cell_of_cells hb4 1
    have p2 := cell_of_cells hb4 2
    have p3 := cell_of_cells hb4 3
    have p4 := cell_of_cells hb4 4
    have p5 := cell_of_cells hb4 5
    have p6 := cell_of_cells hb4 6
    have p7 := cell_of_cells hb4 7
    have p8 := cell_of_cells hb4 8
    have pl := lt_of_block hb4
    have Hb4 := Lib.hid hb4; clear hb4; have Hr4 := Lib.hid hr4; clear hr4; have Hk4 := Lib.hid hk4; clear hk4
    go_wp2_with fail
    refine (textAt (s := ⟨1, 10957, 10987, 11000, 5, 0, 5, true, [⟨5, -1, 7⟩]⟩) rfl Hr4.out (by decide) (by decide)).mono ?_
    rintro e w5 ⟨rfl, hk5⟩
    have Hk5 := Lib.hid hk5; clear hk5
    go_wp2
    go_ret
    exact ⟨rfl, ((((Hk0.out.none_trans Hk2.out).none_trans Hk3.out).none_trans Hk4.out).none_trans Hk5.out).below (by simp) (Nat.le_refl _)⟩
  ·
    go_enter Tryd.func3, Tryd.ntmps3
    go_wp2_with fail
    refine (one20_eq _).mono ?_
    rintro e w1 ⟨rfl, rfl⟩
    have hr1 : Reads (((w.alloc (.cells #[.int .i64 1, .int .i64 10957, .int .i64 10987, .int .i64 11000, .slice (some ⟨w.heap.size + 1, 0, none⟩) 1 1, .int .i64 5, .int .i64 0, .int .i64 5, .bool true] 26)).alloc (.cells #[.int .i64 (1000000000000001), .int .i64 (1), .int .i64 (7)] 30)).alloc (.cells #[.int .i64 (1), .int .i64 (10957), .int .i64 (10987), .int .i64 (11000), .slice (some ⟨w.heap.size + 1, 0, none⟩) 1 1, .int .i64 (1000000000000001), .int .i64 (0), .int .i64 (5), .bool true] 26)) 3 (.slice (some ⟨w.heap.size + 1, 0, none⟩) 1 1) 1 (([⟨1000000000000001, 1, 7⟩] : List Ln).flatMap Ln.cells) := (Reads.litAt _ #[.int .i64 (1000000000000001), .int .i64 (1), .int .i64 (7)] 30 3 1 _ (by simp) rfl).alloc _
    have hb1 := heap_alloc_new ((w.alloc (.cells #[.int .i64 1, .int .i64 10957, .int .i64 10987, .int .i64 11000, .slice (some ⟨w.heap.size + 1, 0, none⟩) 1 1, .int .i64 5, .int .i64 0, .int .i64 5, .bool true] 26)).alloc (.cells #[.int .i64 (1000000000000001), .int .i64 (1), .int .i64 (7)] 30)) (.cells #[.int .i64 (1), .int .i64 (10957), .int .i64 (10987), .int .i64 (11000), .slice (some ⟨w.heap.size + 1, 0, none⟩) 1 1, .int .i64 (1000000000000001), .int .i64 (0), .int .i64 (5), .bool true] 26)
    simp only [World.size_alloc] at hb1
    have hk0 : Keeps (fun _ => False) w (((w.alloc (.cells #[.int .i64 1, .int .i64 10957, .int .i64 10987, .int .i64 11000, .slice (some ⟨w.heap.size + 1, 0, none⟩) 1 1, .int .i64 5, .int .i64 0, .int .i64 5, .bool true] 26)).alloc (.cells #[.int .i64 (1000000000000001), .int .i64 (1), .int .i64 (7)] 30)).alloc (.cells #[.int .i64 (1), .int .i64 (10957), .int .i64 (10987), .int .i64 (11000), .slice (some ⟨w.heap.size + 1, 0, none⟩) 1 1, .int .i64 (1000000000000001), .int .i64 (0), .int .i64 (5), .bool true] 26)) := ((Keeps.alloc _ _).none_trans (Keeps.alloc _ _)).none_trans (Keeps.alloc _ _)
    have Hr1 := Lib.hid hr1; clear hr1; have Hb1 := Lib.hid hb1; clear hb1; have Hk0 := Lib.hid hk0; clear hk0
    go_wp2_with fail
    refine (packAt (s := ⟨1, 10957, 10987, 11000, 1000000000000001, 0, 5, true, [⟨1000000000000001, 1, 7⟩]⟩) rfl Hr1.out (by decide) (by decide)).mono ?_
    rintro e w2 ⟨ad2, cap2, rfl, hk2⟩
    have hb2 := box_old Hb1.out hk2 (by simp)
    have hr2 := Hr1.out.keeps hk2 (by simp)
    have Hb2 := Lib.hid hb2; clear hb2; have Hr2 := Lib.hid hr2; clear hr2; have Hk2 := Lib.hid hk2; clear hk2
    go_wp2_with fail
    refine (awake20_any _).mono ?_
    rintro e w3 ⟨rfl, hk3⟩
    have hb3 := box_old Hb2.out hk3 (by simp)
    have hr3 := Hr2.out.keeps hk3 (by simp)
    have p0 := cell_of_cells hb3 0
    have p1 := cell_of_cells hb3 1
    have p2 := cell_of_cells hb3 2
    have p3 := cell_of_cells hb3 3
    have p4 := cell_of_cells hb3 4
    have p5 := cell_of_cells hb3 5
    have p6 := cell_of_cells hb3 6
    have p7 := cell_of_cells hb3 7
    have p8 := cell_of_cells hb3 8
    have pl := lt_of_block hb3
    have Hb3 := Lib.hid hb3; clear hb3; have Hr3 := Lib.hid hr3; clear hr3; have Hk3 := Lib.hid hk3; clear hk3
    go_wp2_with fail
    refine (rightAt (s := ⟨1, 10957, 10987, 11000, 1000000000000001, 0, 5, true, [⟨1000000000000001, 1, 7⟩]⟩) rfl Hr3.out (by decide) (by decide)).mono ?_
    rintro e w4 ⟨rfl, hk4⟩
    have hb4 := box_old Hb3.out hk4 (by simp)
    have hr4 := Hr3.out.keeps hk4 (by simp)
    clear p0 p1 p2 p3 p4 p5 p6 p7 p8 pl
    have p0 := cell_of_cells hb4 0
    have p1 := cell_of_cells hb4 1
    have p2 := cell_of_cells hb4 2
    have p3 := cell_of_cells hb4 3
    have p4 := cell_of_cells hb4 4
    have p5 := cell_of_cells hb4 5
    have p6 := cell_of_cells hb4 6
    have p7 := cell_of_cells hb4 7
    have p8 := cell_of_cells hb4 8
    have pl := lt_of_block hb4
    have Hb4 := Lib.hid hb4; clear hb4; have Hr4 := Lib.hid hr4; clear hr4; have Hk4 := Lib.hid hk4; clear hk4
    go_wp2_with fail
    refine (textAt (s := ⟨1, 10957, 10987, 11000, 1000000000000001, 0, 5, true, [⟨1000000000000001, 1, 7⟩]⟩) rfl Hr4.out (by decide) (by decide)).mono ?_
    rintro e w5 ⟨rfl, hk5⟩
    have Hk5 := Lib.hid hk5; clear hk5
    go_wp2
    go_ret
    exact ⟨rfl, ((((Hk0.out.none_trans Hk2.out).none_trans Hk3.out).none_trans Hk4.out).none_trans Hk5.out).below (by simp) (Nat.le_refl _)⟩
  ·
    go_enter Tryd.func3, Tryd.ntmps3
    go_wp2_with fail
    refine (one20_eq _).mono ?_
    rintro e w1 ⟨rfl, rfl⟩
    have hr1 : Reads (((w.alloc (.cells #[.int .i64 1, .int .i64 10957, .int .i64 10987, .int .i64 11000, .slice (some ⟨w.heap.size + 1, 0, none⟩) 1 1, .int .i64 5, .int .i64 0, .int .i64 5, .bool true] 26)).alloc (.cells #[.int .i64 (5), .int .i64 (1), .int .i64 (7)] 30)).alloc (.cells #[.int .i64 (1), .int .i64 (10957), .int .i64 (10987), .int .i64 (2932897), .slice (some ⟨w.heap.size + 1, 0, none⟩) 1 1, .int .i64 (5), .int .i64 (0), .int .i64 (5), .bool true] 26)) 3 (.slice (some ⟨w.heap.size + 1, 0, none⟩) 1 1) 1 (([⟨5, 1, 7⟩] : List Ln).flatMap Ln.cells) := (Reads.litAt _ #[.int .i64 (5), .int .i64 (1), .int .i64 (7)] 30 3 1 _ (by simp) rfl).alloc _
    have hb1 := heap_alloc_new ((w.alloc (.cells #[.int .i64 1, .int .i64 10957, .int .i64 10987, .int .i64 11000, .slice (some ⟨w.heap.size + 1, 0, none⟩) 1 1, .int .i64 5, .int .i64 0, .int .i64 5, .bool true] 26)).alloc (.cells #[.int .i64 (5), .int .i64 (1), .int .i64 (7)] 30)) (.cells #[.int .i64 (1), .int .i64 (10957), .int .i64 (10987), .int .i64 (2932897), .slice (some ⟨w.heap.size + 1, 0, none⟩) 1 1, .int .i64 (5), .int .i64 (0), .int .i64 (5), .bool true] 26)
    simp only [World.size_alloc] at hb1
    have hk0 : Keeps (fun _ => False) w (((w.alloc (.cells #[.int .i64 1, .int .i64 10957, .int .i64 10987, .int .i64 11000, .slice (some ⟨w.heap.size + 1, 0, none⟩) 1 1, .int .i64 5, .int .i64 0, .int .i64 5, .bool true] 26)).alloc (.cells #[.int .i64 (5), .int .i64 (1), .int .i64 (7)] 30)).alloc (.cells #[.int .i64 (1), .int .i64 (10957), .int .i64 (10987), .int .i64 (2932897), .slice (some ⟨w.heap.size + 1, 0, none⟩) 1 1, .int .i64 (5), .int .i64 (0), .int .i64 (5), .bool true] 26)) := ((Keeps.alloc _ _).none_trans (Keeps.alloc _ _)).none_trans (Keeps.alloc _ _)
    have Hr1 := Lib.hid hr1; clear hr1; have Hb1 := Lib.hid hb1; clear hb1; have Hk0 := Lib.hid hk0; clear hk0
    go_wp2_with fail
    refine (packAt (s := ⟨1, 10957, 10987, 2932897, 5, 0, 5, true, [⟨5, 1, 7⟩]⟩) rfl Hr1.out (by decide) (by decide)).mono ?_
    rintro e w2 ⟨ad2, cap2, rfl, hk2⟩
    have hb2 := box_old Hb1.out hk2 (by simp)
    have hr2 := Hr1.out.keeps hk2 (by simp)
    have Hb2 := Lib.hid hb2; clear hb2; have Hr2 := Lib.hid hr2; clear hr2; have Hk2 := Lib.hid hk2; clear hk2
    go_wp2_with fail
    refine (awake20_any _).mono ?_
    rintro e w3 ⟨rfl, hk3⟩
    have hb3 := box_old Hb2.out hk3 (by simp)
    have hr3 := Hr2.out.keeps hk3 (by simp)
    have p0 := cell_of_cells hb3 0
    have p1 := cell_of_cells hb3 1
    have p2 := cell_of_cells hb3 2
    have p3 := cell_of_cells hb3 3
    have p4 := cell_of_cells hb3 4
    have p5 := cell_of_cells hb3 5
    have p6 := cell_of_cells hb3 6
    have p7 := cell_of_cells hb3 7
    have p8 := cell_of_cells hb3 8
    have pl := lt_of_block hb3
    have Hb3 := Lib.hid hb3; clear hb3; have Hr3 := Lib.hid hr3; clear hr3; have Hk3 := Lib.hid hk3; clear hk3
    go_wp2_with fail
    refine (rightAt (s := ⟨1, 10957, 10987, 2932897, 5, 0, 5, true, [⟨5, 1, 7⟩]⟩) rfl Hr3.out (by decide) (by decide)).mono ?_
    rintro e w4 ⟨rfl, hk4⟩
    have hb4 := box_old Hb3.out hk4 (by simp)
    have hr4 := Hr3.out.keeps hk4 (by simp)
    clear p0 p1 p2 p3 p4 p5 p6 p7 p8 pl
    have p0 := cell_of_cells hb4 0
    have p1 := cell_of_cells hb4 1
    have p2 := cell_of_cells hb4 2
    have p3 := cell_of_cells hb4 3
    have p4 := cell_of_cells hb4 4
    have p5 := cell_of_cells hb4 5
    have p6 := cell_of_cells hb4 6
    have p7 := cell_of_cells hb4 7
    have p8 := cell_of_cells hb4 8
    have pl := lt_of_block hb4
    have Hb4 := Lib.hid hb4; clear hb4; have Hr4 := Lib.hid hr4; clear hr4; have Hk4 := Lib.hid hk4; clear hk4
    go_wp2_with fail
    refine (textAt (s := ⟨1, 10957, 10987, 2932897, 5, 0, 5, true, [⟨5, 1, 7⟩]⟩) rfl Hr4.out (by decide) (by decide)).mono ?_
    rintro e w5 ⟨rfl, hk5⟩
    have Hk5 := Lib.hid hk5; clear hk5
    go_wp2
    go_ret
    exact ⟨rfl, ((((Hk0.out.none_trans Hk2.out).none_trans Hk3.out).none_trans Hk4.out).none_trans Hk5.out).below (by simp) (Nat.le_refl _)⟩
  ·
    go_enter Tryd.func3, Tryd.ntmps3
    go_wp2_with fail
    refine (one20_eq _).mono ?_
    rintro e w1 ⟨rfl, rfl⟩
    have hr1 : Reads (((w.alloc (.cells #[.int .i64 1, .int .i64 10957, .int .i64 10987, .int .i64 11000, .slice (some ⟨w.heap.size + 1, 0, none⟩) 1 1, .int .i64 5, .int .i64 0, .int .i64 5, .bool true] 26)).alloc (.cells #[.int .i64 (5), .int .i64 (1), .int .i64 (7)] 30)).alloc (.cells #[.int .i64 (1), .int .i64 (-135141), .int .i64 (10987), .int .i64 (11000), .slice (some ⟨w.heap.size + 1, 0, none⟩) 1 1, .int .i64 (5), .int .i64 (0), .int .i64 (5), .bool true] 26)) 3 (.slice (some ⟨w.heap.size + 1, 0, none⟩) 1 1) 1 (([⟨5, 1, 7⟩] : List Ln).flatMap Ln.cells) := (Reads.litAt _ #[.int .i64 (5), .int .i64 (1), .int .i64 (7)] 30 3 1 _ (by simp) rfl).alloc _
    have hb1 := heap_alloc_new ((w.alloc (.cells #[.int .i64 1, .int .i64 10957, .int .i64 10987, .int .i64 11000, .slice (some ⟨w.heap.size + 1, 0, none⟩) 1 1, .int .i64 5, .int .i64 0, .int .i64 5, .bool true] 26)).alloc (.cells #[.int .i64 (5), .int .i64 (1), .int .i64 (7)] 30)) (.cells #[.int .i64 (1), .int .i64 (-135141), .int .i64 (10987), .int .i64 (11000), .slice (some ⟨w.heap.size + 1, 0, none⟩) 1 1, .int .i64 (5), .int .i64 (0), .int .i64 (5), .bool true] 26)
    simp only [World.size_alloc] at hb1
    have hk0 : Keeps (fun _ => False) w (((w.alloc (.cells #[.int .i64 1, .int .i64 10957, .int .i64 10987, .int .i64 11000, .slice (some ⟨w.heap.size + 1, 0, none⟩) 1 1, .int .i64 5, .int .i64 0, .int .i64 5, .bool true] 26)).alloc (.cells #[.int .i64 (5), .int .i64 (1), .int .i64 (7)] 30)).alloc (.cells #[.int .i64 (1), .int .i64 (-135141), .int .i64 (10987), .int .i64 (11000), .slice (some ⟨w.heap.size + 1, 0, none⟩) 1 1, .int .i64 (5), .int .i64 (0), .int .i64 (5), .bool true] 26)) := ((Keeps.alloc _ _).none_trans (Keeps.alloc _ _)).none_trans (Keeps.alloc _ _)
    have Hr1 := Lib.hid hr1; clear hr1; have Hb1 := Lib.hid hb1; clear hb1; have Hk0 := Lib.hid hk0; clear hk0
    go_wp2_with fail
    refine (packAt (s := ⟨1, -135141, 10987, 11000, 5, 0, 5, true, [⟨5, 1, 7⟩]⟩) rfl Hr1.out (by decide) (by decide)).mono ?_
    rintro e w2 ⟨ad2, cap2, rfl, hk2⟩
    have hb2 := box_old Hb1.out hk2 (by simp)
    have hr2 := Hr1.out.keeps hk2 (by simp)
    have Hb2 := Lib.hid hb2; clear hb2; have Hr2 := Lib.hid hr2; clear hr2; have Hk2 := Lib.hid hk2; clear hk2
    go_wp2_with fail
    refine (awake20_any _).mono ?_
    rintro e w3 ⟨rfl, hk3⟩
    have hb3 := box_old Hb2.out hk3 (by simp)
    have hr3 := Hr2.out.keeps hk3 (by simp)
    have p0 := cell_of_cells hb3 0
    have p1 := cell_of_cells hb3 1
    have p2 := cell_of_cells hb3 2
    have p3 := cell_of_cells hb3 3
    have p4 := cell_of_cells hb3 4
    have p5 := cell_of_cells hb3 5
    have p6 := cell_of_cells hb3 6
    have p7 := cell_of_cells hb3 7
    have p8 := cell_of_cells hb3 8
    have pl := lt_of_block hb3
    have Hb3 := Lib.hid hb3; clear hb3; have Hr3 := Lib.hid hr3; clear hr3; have Hk3 := Lib.hid hk3; clear hk3
    go_wp2_with fail
    refine (rightAt (s := ⟨1, -135141, 10987, 11000, 5, 0, 5, true, [⟨5, 1, 7⟩]⟩) rfl Hr3.out (by decide) (by decide)).mono ?_
    rintro e w4 ⟨rfl, hk4⟩
    have hb4 := box_old Hb3.out hk4 (by simp)
    have hr4 := Hr3.out.keeps hk4 (by simp)
    clear p0 p1 p2 p3 p4 p5 p6 p7 p8 pl
    have p0 := cell_of_cells hb4 0
    have p1 := cell_of_cells hb4 1
    have p2 := cell_of_cells hb4 2
    have p3 := cell_of_cells hb4 3
    have p4 := cell_of_cells hb4 4
    have p5 := cell_of_cells hb4 5
    have p6 := cell_of_cells hb4 6
    have p7 := cell_of_cells hb4 7
    have p8 := cell_of_cells hb4 8
    have pl := lt_of_block hb4
    have Hb4 := Lib.hid hb4; clear hb4; have Hr4 := Lib.hid hr4; clear hr4; have Hk4 := Lib.hid hk4; clear hk4
    go_wp2_with fail
    refine (textAt (s := ⟨1, -135141, 10987, 11000, 5, 0, 5, true, [⟨5, 1, 7⟩]⟩) rfl Hr4.out (by decide) (by decide)).mono ?_
    rintro e w5 ⟨rfl, hk5⟩
    have Hk5 := Lib.hid hk5; clear hk5
    go_wp2
    go_ret
    exact ⟨rfl, ((((Hk0.out.none_trans Hk2.out).none_trans Hk3.out).none_trans Hk4.out).none_trans Hk5.out).below (by simp) (Nat.le_refl _)⟩
end Go.Proofs.YthokcmbgamanbaaDoor
