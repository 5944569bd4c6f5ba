/- The walks of the script layer: a command. -/
import Derived.Test.YthokcmbgamanbaaScript2
namespace Go.Proofs.Ythokcmbgamanbaa
open Go.RowKit
def Cmd.val (c : Cmd) : Value := .agg #[.int .i64 c.kind, .int .i64 c.day, .int .i64 c.tranche, .int .i64 c.amount, .int .i64 c.ref]
theorem Keeps.set5 {S : Nat → Prop} {w0 w : World} (h : Keeps S w0 w) (g : Nat) (hg : S g ∨ w0.heap.size ≤ g) (u0 u1 u2 u3 u4 : Value) :
    Keeps S w0 (((((w.setCell ⟨g, 0, none⟩ u0).setCell ⟨g, 1, none⟩ u1).setCell ⟨g, 2, none⟩ u2).setCell ⟨g, 3, none⟩ u3).setCell ⟨g, 4, none⟩ u4) :=
  ((((h.trans (Keeps.setCell _ _ _ hg)).trans (Keeps.setCell _ _ _ hg)).trans (Keeps.setCell _ _ _ hg)).trans (Keeps.setCell _ _ _ hg)).trans (Keeps.setCell _ _ _ hg)
def CmdPost (lo : Nat) (w : World) (b : Nat) (B : List Int) (today : Int) (k : Nat) (e : Ending) (w' : World) : Prop :=
  e = .returned (cmdAt B today k).val ∧ RdAt lo w' b B (k + 4) ∧ Keeps (fun j => j = b) w w'
set_option maxRecDepth 100000 in
set_option maxHeartbeats 800000 in
theorem rdCommand_0 (lo b k : Nat) (y0 y1 y2 y3 : Int) (B : List Int) (today : Int) (w : World) (h : RdAt lo w b B k) (hB : ByOk B) (hlo : lo ≤ w.heap.size) (hbl : b < w.heap.size) (ht0 : 0 ≤ today) (ht1 : today ≤ 1000000000)
    (hy0 : bt B k = y0) (hy1 : bt B (k + 1) = y1) (hy2 : bt B (k + 2) = y2) (hy3 : bt B (k + 3) = y3) (hy0a : 0 ≤ y0) (hy0b : y0 ≤ 255) (hy1a : 0 ≤ y1) (hy1b : y1 ≤ 255) (hy2a : 0 ≤ y2) (hy2b : y2 ≤ 255) (hy3a : 0 ≤ y3) (hy3b : y3 ≤ 255) (hm : y0 % 11 = 0) :
    Calls Try.prog 30 #[(.pointer (some ⟨b, 0, none⟩)), .int .i64 today] w (CmdPost lo w b B today k) := by
  have hcmd : cmdAt B today k = ⟨1, 0, y1 % 4, 256 * y2 + y3, 0⟩ := by unfold cmdAt; rw [hy0, hy1, hy2, hy3]; simp [cmdOf, hm]
  have hw0 := heap_alloc_new w (.cells #[.int .i64 0, .int .i64 0, .int .i64 0, .int .i64 0, .int .i64 0] 34)
  have ha0 := h.keeps (Keeps.alloc (S := fun _ => False) w (.cells #[.int .i64 0, .int .i64 0, .int .i64 0, .int .i64 0, .int .i64 0] 34)) (by simp)
  have hk0 : y0 % 11 + 1 = 1 := by omega
  have H := Lib.hid h; clear h; have HB := Lib.hid hB; clear hB; have Hy0 := Lib.hid hy0; clear hy0; have Hy1 := Lib.hid hy1; clear hy1; have Hy2 := Lib.hid hy2; clear hy2; have Hy3 := Lib.hid hy3; clear hy3; have Hcmd := Lib.hid hcmd; clear hcmd; have Hw0 := Lib.hid hw0; clear hw0; have Ha0 := Lib.hid ha0; clear ha0
  go_enter Try.func30, Try.ntmps30
  go_wp2_with fail
  refine (rdNum_at Ha0.out HB.out Hy0.out).mono ?_
  rintro e w1 ⟨rfl, hr1, hk1⟩
  have Hr1 := Lib.hid hr1
  have Hb1 := Lib.hid (box_old Hw0.out hk1 (by omega))
  have Hk1 := Lib.hid hk1
  clear hr1 hk1
  go_wp2_with fail
  refine (rdNum_at Hr1.out HB.out Hy1.out).mono ?_
  rintro e w2 ⟨rfl, hr2, hk2⟩
  have Hr2 := Lib.hid hr2
  have Hb2 := Lib.hid (box_old Hb1.out hk2 (by omega))
  have Hk2 := Lib.hid hk2
  clear hr2 hk2
  go_wp2_with fail
  refine (rdNum_at Hr2.out HB.out Hy2.out).mono ?_
  rintro e w3 ⟨rfl, hr3, hk3⟩
  have Hr3 := Lib.hid hr3
  have Hb3 := Lib.hid (box_old Hb2.out hk3 (by omega))
  have Hk3 := Lib.hid hk3
  clear hr3 hk3
  go_wp2_with fail
  refine (rdNum_at Hr3.out HB.out Hy3.out).mono ?_
  rintro e w4 ⟨rfl, hr4, hk4⟩
  have hb4 := box_old Hb3.out hk4 (by omega)
  have r0 := cell_of_cells hb4 0
  have r1 := cell_of_cells hb4 1
  have r2 := cell_of_cells hb4 2
  have r3 := cell_of_cells hb4 3
  have r4 := cell_of_cells hb4 4
  have f0 := free_of_cells hb4 0
  have f1 := free_of_cells hb4 1
  have f2 := free_of_cells hb4 2
  have f3 := free_of_cells hb4 3
  have f4 := free_of_cells hb4 4
  have rl := lt_of_block hb4
  have hend : ∀ (o : Obj) (u0 u1 u2 u3 u4 : Value), CmdPost lo w b B today k (.returned (.agg #[.int .i64 (1), .int .i64 (0), .int .i64 (y1 % 4), .int .i64 (256 * y2 + y3), .int .i64 (0)])) ((((((w4.setCell ⟨w.heap.size, 0, none⟩ u0).setCell ⟨w.heap.size, 1, none⟩ u1).setCell ⟨w.heap.size, 2, none⟩ u2).setCell ⟨w.heap.size, 3, none⟩ u3).setCell ⟨w.heap.size, 4, none⟩ u4).alloc o) := by
    intro o u0 u1 u2 u3 u4
    have hkk : Keeps (fun j => j = b) w w4 := (((Keeps.alloc w _).trans (Hk1.out.mono fun _ _ e => .inl e)).trans ((Hk2.out.mono fun _ _ e => .inl e))).trans ((Keeps.trans (S := fun j => j = b) Hk3.out (hk4.mono fun _ _ e => .inl e)).mono fun _ _ e => .inl e)
    have hk5 : Keeps (fun j => j = w.heap.size) w4 ((((((w4.setCell ⟨w.heap.size, 0, none⟩ u0).setCell ⟨w.heap.size, 1, none⟩ u1).setCell ⟨w.heap.size, 2, none⟩ u2).setCell ⟨w.heap.size, 3, none⟩ u3).setCell ⟨w.heap.size, 4, none⟩ u4).alloc o) :=
      (Keeps.set5 (S := fun j => j = w.heap.size) (Keeps.refl _ w4) w.heap.size (.inl rfl) u0 u1 u2 u3 u4).trans (Keeps.alloc _ o)
    exact ⟨by rw [Hcmd.out]; rfl, hr4.keeps hk5 (fun j hj => by omega), hkk.trans (hk5.mono fun j _ hj => by right; omega)⟩
  have Hend := Lib.hid hend
  clear hend hr4 hb4 hk4
  go_wp2
  exact bodyPost_ret (v := .agg #[.int .i64 (1), .int .i64 (0), .int .i64 (y1 % 4), .int .i64 (256 * y2 + y3), .int .i64 (0)]) (by simp [results, Try.results30, go_sem, r0, r1, r2, r3, r4, rl]) rfl (Hend.out _ _ _ _ _ _)
set_option maxRecDepth 100000 in
set_option maxHeartbeats 800000 in
theorem rdCommand_1 (lo b k : Nat) (y0 y1 y2 y3 : Int) (B : List Int) (today : Int) (w : World) (h : RdAt lo w b B k) (hB : ByOk B) (hlo : lo ≤ w.heap.size) (hbl : b < w.heap.size) (ht0 : 0 ≤ today) (ht1 : today ≤ 1000000000)
    (hy0 : bt B k = y0) (hy1 : bt B (k + 1) = y1) (hy2 : bt B (k + 2) = y2) (hy3 : bt B (k + 3) = y3) (hy0a : 0 ≤ y0) (hy0b : y0 ≤ 255) (hy1a : 0 ≤ y1) (hy1b : y1 ≤ 255) (hy2a : 0 ≤ y2) (hy2b : y2 ≤ 255) (hy3a : 0 ≤ y3) (hy3b : y3 ≤ 255) (hm : y0 % 11 = 1) :
    Calls Try.prog 30 #[(.pointer (some ⟨b, 0, none⟩)), .int .i64 today] w (CmdPost lo w b B today k) := by
  have hcmd : cmdAt B today k = ⟨2, 0, 0, 256 * y2 + y3, 0⟩ := by unfold cmdAt; rw [hy0, hy1, hy2, hy3]; simp [cmdOf, hm]
  have hw0 := heap_alloc_new w (.cells #[.int .i64 0, .int .i64 0, .int .i64 0, .int .i64 0, .int .i64 0] 34)
  have ha0 := h.keeps (Keeps.alloc (S := fun _ => False) w (.cells #[.int .i64 0, .int .i64 0, .int .i64 0, .int .i64 0, .int .i64 0] 34)) (by simp)
  have hk0 : y0 % 11 + 1 = 2 := by omega
  have H := Lib.hid h; clear h; have HB := Lib.hid hB; clear hB; have Hy0 := Lib.hid hy0; clear hy0; have Hy1 := Lib.hid hy1; clear hy1; have Hy2 := Lib.hid hy2; clear hy2; have Hy3 := Lib.hid hy3; clear hy3; have Hcmd := Lib.hid hcmd; clear hcmd; have Hw0 := Lib.hid hw0; clear hw0; have Ha0 := Lib.hid ha0; clear ha0
  go_enter Try.func30, Try.ntmps30
  go_wp2_with fail
  refine (rdNum_at Ha0.out HB.out Hy0.out).mono ?_
  rintro e w1 ⟨rfl, hr1, hk1⟩
  have Hr1 := Lib.hid hr1
  have Hb1 := Lib.hid (box_old Hw0.out hk1 (by omega))
  have Hk1 := Lib.hid hk1
  clear hr1 hk1
  go_wp2_with fail
  refine (rdNum_at Hr1.out HB.out Hy1.out).mono ?_
  rintro e w2 ⟨rfl, hr2, hk2⟩
  have Hr2 := Lib.hid hr2
  have Hb2 := Lib.hid (box_old Hb1.out hk2 (by omega))
  have Hk2 := Lib.hid hk2
  clear hr2 hk2
  go_wp2_with fail
  refine (rdNum_at Hr2.out HB.out Hy2.out).mono ?_
  rintro e w3 ⟨rfl, hr3, hk3⟩
  have Hr3 := Lib.hid hr3
  have Hb3 := Lib.hid (box_old Hb2.out hk3 (by omega))
  have Hk3 := Lib.hid hk3
  clear hr3 hk3
  go_wp2_with fail
  refine (rdNum_at Hr3.out HB.out Hy3.out).mono ?_
  rintro e w4 ⟨rfl, hr4, hk4⟩
  have hb4 := box_old Hb3.out hk4 (by omega)
  have r0 := cell_of_cells hb4 0
  have r1 := cell_of_cells hb4 1
  have r2 := cell_of_cells hb4 2
  have r3 := cell_of_cells hb4 3
  have r4 := cell_of_cells hb4 4
  have f0 := free_of_cells hb4 0
  have f1 := free_of_cells hb4 1
  have f2 := free_of_cells hb4 2
  have f3 := free_of_cells hb4 3
  have f4 := free_of_cells hb4 4
  have rl := lt_of_block hb4
  have hend : ∀ (o : Obj) (u0 u1 u2 u3 u4 : Value), CmdPost lo w b B today k (.returned (.agg #[.int .i64 (2), .int .i64 (0), .int .i64 (0), .int .i64 (256 * y2 + y3), .int .i64 (0)])) ((((((w4.setCell ⟨w.heap.size, 0, none⟩ u0).setCell ⟨w.heap.size, 1, none⟩ u1).setCell ⟨w.heap.size, 2, none⟩ u2).setCell ⟨w.heap.size, 3, none⟩ u3).setCell ⟨w.heap.size, 4, none⟩ u4).alloc o) := by
    intro o u0 u1 u2 u3 u4
    have hkk : Keeps (fun j => j = b) w w4 := (((Keeps.alloc w _).trans (Hk1.out.mono fun _ _ e => .inl e)).trans ((Hk2.out.mono fun _ _ e => .inl e))).trans ((Keeps.trans (S := fun j => j = b) Hk3.out (hk4.mono fun _ _ e => .inl e)).mono fun _ _ e => .inl e)
    have hk5 : Keeps (fun j => j = w.heap.size) w4 ((((((w4.setCell ⟨w.heap.size, 0, none⟩ u0).setCell ⟨w.heap.size, 1, none⟩ u1).setCell ⟨w.heap.size, 2, none⟩ u2).setCell ⟨w.heap.size, 3, none⟩ u3).setCell ⟨w.heap.size, 4, none⟩ u4).alloc o) :=
      (Keeps.set5 (S := fun j => j = w.heap.size) (Keeps.refl _ w4) w.heap.size (.inl rfl) u0 u1 u2 u3 u4).trans (Keeps.alloc _ o)
    exact ⟨by rw [Hcmd.out]; rfl, hr4.keeps hk5 (fun j hj => by omega), hkk.trans (hk5.mono fun j _ hj => by right; omega)⟩
  have Hend := Lib.hid hend
  clear hend hr4 hb4 hk4
  go_wp2
  exact bodyPost_ret (v := .agg #[.int .i64 (2), .int .i64 (0), .int .i64 (0), .int .i64 (256 * y2 + y3), .int .i64 (0)]) (by simp [results, Try.results30, go_sem, r0, r1, r2, r3, r4, rl]) rfl (Hend.out _ _ _ _ _ _)
set_option maxRecDepth 100000 in
set_option maxHeartbeats 800000 in
theorem rdCommand_2 (lo b k : Nat) (y0 y1 y2 y3 : Int) (B : List Int) (today : Int) (w : World) (h : RdAt lo w b B k) (hB : ByOk B) (hlo : lo ≤ w.heap.size) (hbl : b < w.heap.size) (ht0 : 0 ≤ today) (ht1 : today ≤ 1000000000)
    (hy0 : bt B k = y0) (hy1 : bt B (k + 1) = y1) (hy2 : bt B (k + 2) = y2) (hy3 : bt B (k + 3) = y3) (hy0a : 0 ≤ y0) (hy0b : y0 ≤ 255) (hy1a : 0 ≤ y1) (hy1b : y1 ≤ 255) (hy2a : 0 ≤ y2) (hy2b : y2 ≤ 255) (hy3a : 0 ≤ y3) (hy3b : y3 ≤ 255) (hm : y0 % 11 = 2) :
    Calls Try.prog 30 #[(.pointer (some ⟨b, 0, none⟩)), .int .i64 today] w (CmdPost lo w b B today k) := by
  have hcmd : cmdAt B today k = ⟨3, today - y3, y1 % 4, 256 * y2 + y3, 0⟩ := by unfold cmdAt; rw [hy0, hy1, hy2, hy3]; simp [cmdOf, hm]
  have hw0 := heap_alloc_new w (.cells #[.int .i64 0, .int .i64 0, .int .i64 0, .int .i64 0, .int .i64 0] 34)
  have ha0 := h.keeps (Keeps.alloc (S := fun _ => False) w (.cells #[.int .i64 0, .int .i64 0, .int .i64 0, .int .i64 0, .int .i64 0] 34)) (by simp)
  have hk0 : y0 % 11 + 1 = 3 := by omega
  have H := Lib.hid h; clear h; have HB := Lib.hid hB; clear hB; have Hy0 := Lib.hid hy0; clear hy0; have Hy1 := Lib.hid hy1; clear hy1; have Hy2 := Lib.hid hy2; clear hy2; have Hy3 := Lib.hid hy3; clear hy3; have Hcmd := Lib.hid hcmd; clear hcmd; have Hw0 := Lib.hid hw0; clear hw0; have Ha0 := Lib.hid ha0; clear ha0
  go_enter Try.func30, Try.ntmps30
  go_wp2_with fail
  refine (rdNum_at Ha0.out HB.out Hy0.out).mono ?_
  rintro e w1 ⟨rfl, hr1, hk1⟩
  have Hr1 := Lib.hid hr1
  have Hb1 := Lib.hid (box_old Hw0.out hk1 (by omega))
  have Hk1 := Lib.hid hk1
  clear hr1 hk1
  go_wp2_with fail
  refine (rdNum_at Hr1.out HB.out Hy1.out).mono ?_
  rintro e w2 ⟨rfl, hr2, hk2⟩
  have Hr2 := Lib.hid hr2
  have Hb2 := Lib.hid (box_old Hb1.out hk2 (by omega))
  have Hk2 := Lib.hid hk2
  clear hr2 hk2
  go_wp2_with fail
  refine (rdNum_at Hr2.out HB.out Hy2.out).mono ?_
  rintro e w3 ⟨rfl, hr3, hk3⟩
  have Hr3 := Lib.hid hr3
  have Hb3 := Lib.hid (box_old Hb2.out hk3 (by omega))
  have Hk3 := Lib.hid hk3
  clear hr3 hk3
  go_wp2_with fail
  refine (rdNum_at Hr3.out HB.out Hy3.out).mono ?_
  rintro e w4 ⟨rfl, hr4, hk4⟩
  have hb4 := box_old Hb3.out hk4 (by omega)
  have r0 := cell_of_cells hb4 0
  have r1 := cell_of_cells hb4 1
  have r2 := cell_of_cells hb4 2
  have r3 := cell_of_cells hb4 3
  have r4 := cell_of_cells hb4 4
  have f0 := free_of_cells hb4 0
  have f1 := free_of_cells hb4 1
  have f2 := free_of_cells hb4 2
  have f3 := free_of_cells hb4 3
  have f4 := free_of_cells hb4 4
  have rl := lt_of_block hb4
  have hend : ∀ (o : Obj) (u0 u1 u2 u3 u4 : Value), CmdPost lo w b B today k (.returned (.agg #[.int .i64 (3), .int .i64 (today - y3), .int .i64 (y1 % 4), .int .i64 (256 * y2 + y3), .int .i64 (0)])) ((((((w4.setCell ⟨w.heap.size, 0, none⟩ u0).setCell ⟨w.heap.size, 1, none⟩ u1).setCell ⟨w.heap.size, 2, none⟩ u2).setCell ⟨w.heap.size, 3, none⟩ u3).setCell ⟨w.heap.size, 4, none⟩ u4).alloc o) := by
    intro o u0 u1 u2 u3 u4
    have hkk : Keeps (fun j => j = b) w w4 := (((Keeps.alloc w _).trans (Hk1.out.mono fun _ _ e => .inl e)).trans ((Hk2.out.mono fun _ _ e => .inl e))).trans ((Keeps.trans (S := fun j => j = b) Hk3.out (hk4.mono fun _ _ e => .inl e)).mono fun _ _ e => .inl e)
    have hk5 : Keeps (fun j => j = w.heap.size) w4 ((((((w4.setCell ⟨w.heap.size, 0, none⟩ u0).setCell ⟨w.heap.size, 1, none⟩ u1).setCell ⟨w.heap.size, 2, none⟩ u2).setCell ⟨w.heap.size, 3, none⟩ u3).setCell ⟨w.heap.size, 4, none⟩ u4).alloc o) :=
      (Keeps.set5 (S := fun j => j = w.heap.size) (Keeps.refl _ w4) w.heap.size (.inl rfl) u0 u1 u2 u3 u4).trans (Keeps.alloc _ o)
    exact ⟨by rw [Hcmd.out]; rfl, hr4.keeps hk5 (fun j hj => by omega), hkk.trans (hk5.mono fun j _ hj => by right; omega)⟩
  have Hend := Lib.hid hend
  clear hend hr4 hb4 hk4
  go_wp2
  exact bodyPost_ret (v := .agg #[.int .i64 (3), .int .i64 (today - y3), .int .i64 (y1 % 4), .int .i64 (256 * y2 + y3), .int .i64 (0)]) (by simp [results, Try.results30, go_sem, r0, r1, r2, r3, r4, rl]) rfl (Hend.out _ _ _ _ _ _)
set_option maxRecDepth 100000 in
set_option maxHeartbeats 800000 in
theorem rdCommand_3 (lo b k : Nat) (y0 y1 y2 y3 : Int) (B : List Int) (today : Int) (w : World) (h : RdAt lo w b B k) (hB : ByOk B) (hlo : lo ≤ w.heap.size) (hbl : b < w.heap.size) (ht0 : 0 ≤ today) (ht1 : today ≤ 1000000000)
    (hy0 : bt B k = y0) (hy1 : bt B (k + 1) = y1) (hy2 : bt B (k + 2) = y2) (hy3 : bt B (k + 3) = y3) (hy0a : 0 ≤ y0) (hy0b : y0 ≤ 255) (hy1a : 0 ≤ y1) (hy1b : y1 ≤ 255) (hy2a : 0 ≤ y2) (hy2b : y2 ≤ 255) (hy3a : 0 ≤ y3) (hy3b : y3 ≤ 255) (hm : y0 % 11 = 3) :
    Calls Try.prog 30 #[(.pointer (some ⟨b, 0, none⟩)), .int .i64 today] w (CmdPost lo w b B today k) := by
  have hcmd : cmdAt B today k = ⟨4, 0, y1 % 4, 256 * y2 + y3, 0⟩ := by unfold cmdAt; rw [hy0, hy1, hy2, hy3]; simp [cmdOf, hm]
  have hw0 := heap_alloc_new w (.cells #[.int .i64 0, .int .i64 0, .int .i64 0, .int .i64 0, .int .i64 0] 34)
  have ha0 := h.keeps (Keeps.alloc (S := fun _ => False) w (.cells #[.int .i64 0, .int .i64 0, .int .i64 0, .int .i64 0, .int .i64 0] 34)) (by simp)
  have hk0 : y0 % 11 + 1 = 4 := by omega
  have H := Lib.hid h; clear h; have HB := Lib.hid hB; clear hB; have Hy0 := Lib.hid hy0; clear hy0; have Hy1 := Lib.hid hy1; clear hy1; have Hy2 := Lib.hid hy2; clear hy2; have Hy3 := Lib.hid hy3; clear hy3; have Hcmd := Lib.hid hcmd; clear hcmd; have Hw0 := Lib.hid hw0; clear hw0; have Ha0 := Lib.hid ha0; clear ha0
  go_enter Try.func30, Try.ntmps30
  go_wp2_with fail
  refine (rdNum_at Ha0.out HB.out Hy0.out).mono ?_
  rintro e w1 ⟨rfl, hr1, hk1⟩
  have Hr1 := Lib.hid hr1
  have Hb1 := Lib.hid (box_old Hw0.out hk1 (by omega))
  have Hk1 := Lib.hid hk1
  clear hr1 hk1
  go_wp2_with fail
  refine (rdNum_at Hr1.out HB.out Hy1.out).mono ?_
  rintro e w2 ⟨rfl, hr2, hk2⟩
  have Hr2 := Lib.hid hr2
  have Hb2 := Lib.hid (box_old Hb1.out hk2 (by omega))
  have Hk2 := Lib.hid hk2
  clear hr2 hk2
  go_wp2_with fail
  refine (rdNum_at Hr2.out HB.out Hy2.out).mono ?_
  rintro e w3 ⟨rfl, hr3, hk3⟩
  have Hr3 := Lib.hid hr3
  have Hb3 := Lib.hid (box_old Hb2.out hk3 (by omega))
  have Hk3 := Lib.hid hk3
  clear hr3 hk3
  go_wp2_with fail
  refine (rdNum_at Hr3.out HB.out Hy3.out).mono ?_
  rintro e w4 ⟨rfl, hr4, hk4⟩
  have hb4 := box_old Hb3.out hk4 (by omega)
  have r0 := cell_of_cells hb4 0
  have r1 := cell_of_cells hb4 1
  have r2 := cell_of_cells hb4 2
  have r3 := cell_of_cells hb4 3
  have r4 := cell_of_cells hb4 4
  have f0 := free_of_cells hb4 0
  have f1 := free_of_cells hb4 1
  have f2 := free_of_cells hb4 2
  have f3 := free_of_cells hb4 3
  have f4 := free_of_cells hb4 4
  have rl := lt_of_block hb4
  have hend : ∀ (o : Obj) (u0 u1 u2 u3 u4 : Value), CmdPost lo w b B today k (.returned (.agg #[.int .i64 (4), .int .i64 (0), .int .i64 (y1 % 4), .int .i64 (256 * y2 + y3), .int .i64 (0)])) ((((((w4.setCell ⟨w.heap.size, 0, none⟩ u0).setCell ⟨w.heap.size, 1, none⟩ u1).setCell ⟨w.heap.size, 2, none⟩ u2).setCell ⟨w.heap.size, 3, none⟩ u3).setCell ⟨w.heap.size, 4, none⟩ u4).alloc o) := by
    intro o u0 u1 u2 u3 u4
    have hkk : Keeps (fun j => j = b) w w4 := (((Keeps.alloc w _).trans (Hk1.out.mono fun _ _ e => .inl e)).trans ((Hk2.out.mono fun _ _ e => .inl e))).trans ((Keeps.trans (S := fun j => j = b) Hk3.out (hk4.mono fun _ _ e => .inl e)).mono fun _ _ e => .inl e)
    have hk5 : Keeps (fun j => j = w.heap.size) w4 ((((((w4.setCell ⟨w.heap.size, 0, none⟩ u0).setCell ⟨w.heap.size, 1, none⟩ u1).setCell ⟨w.heap.size, 2, none⟩ u2).setCell ⟨w.heap.size, 3, none⟩ u3).setCell ⟨w.heap.size, 4, none⟩ u4).alloc o) :=
      (Keeps.set5 (S := fun j => j = w.heap.size) (Keeps.refl _ w4) w.heap.size (.inl rfl) u0 u1 u2 u3 u4).trans (Keeps.alloc _ o)
    exact ⟨by rw [Hcmd.out]; rfl, hr4.keeps hk5 (fun j hj => by omega), hkk.trans (hk5.mono fun j _ hj => by right; omega)⟩
  have Hend := Lib.hid hend
  clear hend hr4 hb4 hk4
  go_wp2
  exact bodyPost_ret (v := .agg #[.int .i64 (4), .int .i64 (0), .int .i64 (y1 % 4), .int .i64 (256 * y2 + y3), .int .i64 (0)]) (by simp [results, Try.results30, go_sem, r0, r1, r2, r3, r4, rl]) rfl (Hend.out _ _ _ _ _ _)
set_option maxRecDepth 100000 in
set_option maxHeartbeats 800000 in
theorem rdCommand_4 (lo b k : Nat) (y0 y1 y2 y3 : Int) (B : List Int) (today : Int) (w : World) (h : RdAt lo w b B k) (hB : ByOk B) (hlo : lo ≤ w.heap.size) (hbl : b < w.heap.size) (ht0 : 0 ≤ today) (ht1 : today ≤ 1000000000)
    (hy0 : bt B k = y0) (hy1 : bt B (k + 1) = y1) (hy2 : bt B (k + 2) = y2) (hy3 : bt B (k + 3) = y3) (hy0a : 0 ≤ y0) (hy0b : y0 ≤ 255) (hy1a : 0 ≤ y1) (hy1b : y1 ≤ 255) (hy2a : 0 ≤ y2) (hy2b : y2 ≤ 255) (hy3a : 0 ≤ y3) (hy3b : y3 ≤ 255) (hm : y0 % 11 = 4) :
    Calls Try.prog 30 #[(.pointer (some ⟨b, 0, none⟩)), .int .i64 today] w (CmdPost lo w b B today k) := by
  have hcmd : cmdAt B today k = ⟨5, 0, 0, 0, y2 % 8 + 1⟩ := by unfold cmdAt; rw [hy0, hy1, hy2, hy3]; simp [cmdOf, hm]
  have hw0 := heap_alloc_new w (.cells #[.int .i64 0, .int .i64 0, .int .i64 0, .int .i64 0, .int .i64 0] 34)
  have ha0 := h.keeps (Keeps.alloc (S := fun _ => False) w (.cells #[.int .i64 0, .int .i64 0, .int .i64 0, .int .i64 0, .int .i64 0] 34)) (by simp)
  have hk0 : y0 % 11 + 1 = 5 := by omega
  have H := Lib.hid h; clear h; have HB := Lib.hid hB; clear hB; have Hy0 := Lib.hid hy0; clear hy0; have Hy1 := Lib.hid hy1; clear hy1; have Hy2 := Lib.hid hy2; clear hy2; have Hy3 := Lib.hid hy3; clear hy3; have Hcmd := Lib.hid hcmd; clear hcmd; have Hw0 := Lib.hid hw0; clear hw0; have Ha0 := Lib.hid ha0; clear ha0
  go_enter Try.func30, Try.ntmps30
  go_wp2_with fail
  refine (rdNum_at Ha0.out HB.out Hy0.out).mono ?_
  rintro e w1 ⟨rfl, hr1, hk1⟩
  have Hr1 := Lib.hid hr1
  have Hb1 := Lib.hid (box_old Hw0.out hk1 (by omega))
  have Hk1 := Lib.hid hk1
  clear hr1 hk1
  go_wp2_with fail
  refine (rdNum_at Hr1.out HB.out Hy1.out).mono ?_
  rintro e w2 ⟨rfl, hr2, hk2⟩
  have Hr2 := Lib.hid hr2
  have Hb2 := Lib.hid (box_old Hb1.out hk2 (by omega))
  have Hk2 := Lib.hid hk2
  clear hr2 hk2
  go_wp2_with fail
  refine (rdNum_at Hr2.out HB.out Hy2.out).mono ?_
  rintro e w3 ⟨rfl, hr3, hk3⟩
  have Hr3 := Lib.hid hr3
  have Hb3 := Lib.hid (box_old Hb2.out hk3 (by omega))
  have Hk3 := Lib.hid hk3
  clear hr3 hk3
  go_wp2_with fail
  refine (rdNum_at Hr3.out HB.out Hy3.out).mono ?_
  rintro e w4 ⟨rfl, hr4, hk4⟩
  have hb4 := box_old Hb3.out hk4 (by omega)
  have r0 := cell_of_cells hb4 0
  have r1 := cell_of_cells hb4 1
  have r2 := cell_of_cells hb4 2
  have r3 := cell_of_cells hb4 3
  have r4 := cell_of_cells hb4 4
  have f0 := free_of_cells hb4 0
  have f1 := free_of_cells hb4 1
  have f2 := free_of_cells hb4 2
  have f3 := free_of_cells hb4 3
  have f4 := free_of_cells hb4 4
  have rl := lt_of_block hb4
  have hend : ∀ (o : Obj) (u0 u1 u2 u3 u4 : Value), CmdPost lo w b B today k (.returned (.agg #[.int .i64 (5), .int .i64 (0), .int .i64 (0), .int .i64 (0), .int .i64 (y2 % 8 + 1)])) ((((((w4.setCell ⟨w.heap.size, 0, none⟩ u0).setCell ⟨w.heap.size, 1, none⟩ u1).setCell ⟨w.heap.size, 2, none⟩ u2).setCell ⟨w.heap.size, 3, none⟩ u3).setCell ⟨w.heap.size, 4, none⟩ u4).alloc o) := by
    intro o u0 u1 u2 u3 u4
    have hkk : Keeps (fun j => j = b) w w4 := (((Keeps.alloc w _).trans (Hk1.out.mono fun _ _ e => .inl e)).trans ((Hk2.out.mono fun _ _ e => .inl e))).trans ((Keeps.trans (S := fun j => j = b) Hk3.out (hk4.mono fun _ _ e => .inl e)).mono fun _ _ e => .inl e)
    have hk5 : Keeps (fun j => j = w.heap.size) w4 ((((((w4.setCell ⟨w.heap.size, 0, none⟩ u0).setCell ⟨w.heap.size, 1, none⟩ u1).setCell ⟨w.heap.size, 2, none⟩ u2).setCell ⟨w.heap.size, 3, none⟩ u3).setCell ⟨w.heap.size, 4, none⟩ u4).alloc o) :=
      (Keeps.set5 (S := fun j => j = w.heap.size) (Keeps.refl _ w4) w.heap.size (.inl rfl) u0 u1 u2 u3 u4).trans (Keeps.alloc _ o)
    exact ⟨by rw [Hcmd.out]; rfl, hr4.keeps hk5 (fun j hj => by omega), hkk.trans (hk5.mono fun j _ hj => by right; omega)⟩
  have Hend := Lib.hid hend
  clear hend hr4 hb4 hk4
  go_wp2
  exact bodyPost_ret (v := .agg #[.int .i64 (5), .int .i64 (0), .int .i64 (0), .int .i64 (0), .int .i64 (y2 % 8 + 1)]) (by simp [results, Try.results30, go_sem, r0, r1, r2, r3, r4, rl]) rfl (Hend.out _ _ _ _ _ _)
set_option maxRecDepth 100000 in
set_option maxHeartbeats 800000 in
theorem rdCommand_5 (lo b k : Nat) (y0 y1 y2 y3 : Int) (B : List Int) (today : Int) (w : World) (h : RdAt lo w b B k) (hB : ByOk B) (hlo : lo ≤ w.heap.size) (hbl : b < w.heap.size) (ht0 : 0 ≤ today) (ht1 : today ≤ 1000000000)
    (hy0 : bt B k = y0) (hy1 : bt B (k + 1) = y1) (hy2 : bt B (k + 2) = y2) (hy3 : bt B (k + 3) = y3) (hy0a : 0 ≤ y0) (hy0b : y0 ≤ 255) (hy1a : 0 ≤ y1) (hy1b : y1 ≤ 255) (hy2a : 0 ≤ y2) (hy2b : y2 ≤ 255) (hy3a : 0 ≤ y3) (hy3b : y3 ≤ 255) (hm : y0 % 11 = 5) :
    Calls Try.prog 30 #[(.pointer (some ⟨b, 0, none⟩)), .int .i64 today] w (CmdPost lo w b B today k) := by
  have hcmd : cmdAt B today k = ⟨6, 0, 0, 0, y2 % 8 + 1⟩ := by unfold cmdAt; rw [hy0, hy1, hy2, hy3]; simp [cmdOf, hm]
  have hw0 := heap_alloc_new w (.cells #[.int .i64 0, .int .i64 0, .int .i64 0, .int .i64 0, .int .i64 0] 34)
  have ha0 := h.keeps (Keeps.alloc (S := fun _ => False) w (.cells #[.int .i64 0, .int .i64 0, .int .i64 0, .int .i64 0, .int .i64 0] 34)) (by simp)
  have hk0 : y0 % 11 + 1 = 6 := by omega
  have H := Lib.hid h; clear h; have HB := Lib.hid hB; clear hB; have Hy0 := Lib.hid hy0; clear hy0; have Hy1 := Lib.hid hy1; clear hy1; have Hy2 := Lib.hid hy2; clear hy2; have Hy3 := Lib.hid hy3; clear hy3; have Hcmd := Lib.hid hcmd; clear hcmd; have Hw0 := Lib.hid hw0; clear hw0; have Ha0 := Lib.hid ha0; clear ha0
  go_enter Try.func30, Try.ntmps30
  go_wp2_with fail
  refine (rdNum_at Ha0.out HB.out Hy0.out).mono ?_
  rintro e w1 ⟨rfl, hr1, hk1⟩
  have Hr1 := Lib.hid hr1
  have Hb1 := Lib.hid (box_old Hw0.out hk1 (by omega))
  have Hk1 := Lib.hid hk1
  clear hr1 hk1
  go_wp2_with fail
  refine (rdNum_at Hr1.out HB.out Hy1.out).mono ?_
  rintro e w2 ⟨rfl, hr2, hk2⟩
  have Hr2 := Lib.hid hr2
  have Hb2 := Lib.hid (box_old Hb1.out hk2 (by omega))
  have Hk2 := Lib.hid hk2
  clear hr2 hk2
  go_wp2_with fail
  refine (rdNum_at Hr2.out HB.out Hy2.out).mono ?_
  rintro e w3 ⟨rfl, hr3, hk3⟩
  have Hr3 := Lib.hid hr3
  have Hb3 := Lib.hid (box_old Hb2.out hk3 (by omega))
  have Hk3 := Lib.hid hk3
  clear hr3 hk3
  go_wp2_with fail
  refine (rdNum_at Hr3.out HB.out Hy3.out).mono ?_
  rintro e w4 ⟨rfl, hr4, hk4⟩
  have hb4 := box_old Hb3.out hk4 (by omega)
  have r0 := cell_of_cells hb4 0
  have r1 := cell_of_cells hb4 1
  have r2 := cell_of_cells hb4 2
  have r3 := cell_of_cells hb4 3
  have r4 := cell_of_cells hb4 4
  have f0 := free_of_cells hb4 0
  have f1 := free_of_cells hb4 1
  have f2 := free_of_cells hb4 2
  have f3 := free_of_cells hb4 3
  have f4 := free_of_cells hb4 4
  have rl := lt_of_block hb4
  have hend : ∀ (o : Obj) (u0 u1 u2 u3 u4 : Value), CmdPost lo w b B today k (.returned (.agg #[.int .i64 (6), .int .i64 (0), .int .i64 (0), .int .i64 (0), .int .i64 (y2 % 8 + 1)])) ((((((w4.setCell ⟨w.heap.size, 0, none⟩ u0).setCell ⟨w.heap.size, 1, none⟩ u1).setCell ⟨w.heap.size, 2, none⟩ u2).setCell ⟨w.heap.size, 3, none⟩ u3).setCell ⟨w.heap.size, 4, none⟩ u4).alloc o) := by
    intro o u0 u1 u2 u3 u4
    have hkk : Keeps (fun j => j = b) w w4 := (((Keeps.alloc w _).trans (Hk1.out.mono fun _ _ e => .inl e)).trans ((Hk2.out.mono fun _ _ e => .inl e))).trans ((Keeps.trans (S := fun j => j = b) Hk3.out (hk4.mono fun _ _ e => .inl e)).mono fun _ _ e => .inl e)
    have hk5 : Keeps (fun j => j = w.heap.size) w4 ((((((w4.setCell ⟨w.heap.size, 0, none⟩ u0).setCell ⟨w.heap.size, 1, none⟩ u1).setCell ⟨w.heap.size, 2, none⟩ u2).setCell ⟨w.heap.size, 3, none⟩ u3).setCell ⟨w.heap.size, 4, none⟩ u4).alloc o) :=
      (Keeps.set5 (S := fun j => j = w.heap.size) (Keeps.refl _ w4) w.heap.size (.inl rfl) u0 u1 u2 u3 u4).trans (Keeps.alloc _ o)
    exact ⟨by rw [Hcmd.out]; rfl, hr4.keeps hk5 (fun j hj => by omega), hkk.trans (hk5.mono fun j _ hj => by right; omega)⟩
  have Hend := Lib.hid hend
  clear hend hr4 hb4 hk4
  go_wp2
  exact bodyPost_ret (v := .agg #[.int .i64 (6), .int .i64 (0), .int .i64 (0), .int .i64 (0), .int .i64 (y2 % 8 + 1)]) (by simp [results, Try.results30, go_sem, r0, r1, r2, r3, r4, rl]) rfl (Hend.out _ _ _ _ _ _)
set_option maxRecDepth 100000 in
set_option maxHeartbeats 800000 in
theorem rdCommand_6 (lo b k : Nat) (y0 y1 y2 y3 : Int) (B : List Int) (today : Int) (w : World) (h : RdAt lo w b B k) (hB : ByOk B) (hlo : lo ≤ w.heap.size) (hbl : b < w.heap.size) (ht0 : 0 ≤ today) (ht1 : today ≤ 1000000000)
    (hy0 : bt B k = y0) (hy1 : bt B (k + 1) = y1) (hy2 : bt B (k + 2) = y2) (hy3 : bt B (k + 3) = y3) (hy0a : 0 ≤ y0) (hy0b : y0 ≤ 255) (hy1a : 0 ≤ y1) (hy1b : y1 ≤ 255) (hy2a : 0 ≤ y2) (hy2b : y2 ≤ 255) (hy3a : 0 ≤ y3) (hy3b : y3 ≤ 255) (hm : y0 % 11 = 6) :
    Calls Try.prog 30 #[(.pointer (some ⟨b, 0, none⟩)), .int .i64 today] w (CmdPost lo w b B today k) := by
  have hcmd : cmdAt B today k = ⟨7, 0, y1 % 4, (256 * y2 + y3) * 100, 0⟩ := by unfold cmdAt; rw [hy0, hy1, hy2, hy3]; simp [cmdOf, hm]
  have hw0 := heap_alloc_new w (.cells #[.int .i64 0, .int .i64 0, .int .i64 0, .int .i64 0, .int .i64 0] 34)
  have ha0 := h.keeps (Keeps.alloc (S := fun _ => False) w (.cells #[.int .i64 0, .int .i64 0, .int .i64 0, .int .i64 0, .int .i64 0] 34)) (by simp)
  have hk0 : y0 % 11 + 1 = 7 := by omega
  have H := Lib.hid h; clear h; have HB := Lib.hid hB; clear hB; have Hy0 := Lib.hid hy0; clear hy0; have Hy1 := Lib.hid hy1; clear hy1; have Hy2 := Lib.hid hy2; clear hy2; have Hy3 := Lib.hid hy3; clear hy3; have Hcmd := Lib.hid hcmd; clear hcmd; have Hw0 := Lib.hid hw0; clear hw0; have Ha0 := Lib.hid ha0; clear ha0
  go_enter Try.func30, Try.ntmps30
  go_wp2_with fail
  refine (rdNum_at Ha0.out HB.out Hy0.out).mono ?_
  rintro e w1 ⟨rfl, hr1, hk1⟩
  have Hr1 := Lib.hid hr1
  have Hb1 := Lib.hid (box_old Hw0.out hk1 (by omega))
  have Hk1 := Lib.hid hk1
  clear hr1 hk1
  go_wp2_with fail
  refine (rdNum_at Hr1.out HB.out Hy1.out).mono ?_
  rintro e w2 ⟨rfl, hr2, hk2⟩
  have Hr2 := Lib.hid hr2
  have Hb2 := Lib.hid (box_old Hb1.out hk2 (by omega))
  have Hk2 := Lib.hid hk2
  clear hr2 hk2
  go_wp2_with fail
  refine (rdNum_at Hr2.out HB.out Hy2.out).mono ?_
  rintro e w3 ⟨rfl, hr3, hk3⟩
  have Hr3 := Lib.hid hr3
  have Hb3 := Lib.hid (box_old Hb2.out hk3 (by omega))
  have Hk3 := Lib.hid hk3
  clear hr3 hk3
  go_wp2_with fail
  refine (rdNum_at Hr3.out HB.out Hy3.out).mono ?_
  rintro e w4 ⟨rfl, hr4, hk4⟩
  have hb4 := box_old Hb3.out hk4 (by omega)
  have r0 := cell_of_cells hb4 0
  have r1 := cell_of_cells hb4 1
  have r2 := cell_of_cells hb4 2
  have r3 := cell_of_cells hb4 3
  have r4 := cell_of_cells hb4 4
  have f0 := free_of_cells hb4 0
  have f1 := free_of_cells hb4 1
  have f2 := free_of_cells hb4 2
  have f3 := free_of_cells hb4 3
  have f4 := free_of_cells hb4 4
  have rl := lt_of_block hb4
  have hend : ∀ (o : Obj) (u0 u1 u2 u3 u4 : Value), CmdPost lo w b B today k (.returned (.agg #[.int .i64 (7), .int .i64 (0), .int .i64 (y1 % 4), .int .i64 ((256 * y2 + y3) * 100), .int .i64 (0)])) ((((((w4.setCell ⟨w.heap.size, 0, none⟩ u0).setCell ⟨w.heap.size, 1, none⟩ u1).setCell ⟨w.heap.size, 2, none⟩ u2).setCell ⟨w.heap.size, 3, none⟩ u3).setCell ⟨w.heap.size, 4, none⟩ u4).alloc o) := by
    intro o u0 u1 u2 u3 u4
    have hkk : Keeps (fun j => j = b) w w4 := (((Keeps.alloc w _).trans (Hk1.out.mono fun _ _ e => .inl e)).trans ((Hk2.out.mono fun _ _ e => .inl e))).trans ((Keeps.trans (S := fun j => j = b) Hk3.out (hk4.mono fun _ _ e => .inl e)).mono fun _ _ e => .inl e)
    have hk5 : Keeps (fun j => j = w.heap.size) w4 ((((((w4.setCell ⟨w.heap.size, 0, none⟩ u0).setCell ⟨w.heap.size, 1, none⟩ u1).setCell ⟨w.heap.size, 2, none⟩ u2).setCell ⟨w.heap.size, 3, none⟩ u3).setCell ⟨w.heap.size, 4, none⟩ u4).alloc o) :=
      (Keeps.set5 (S := fun j => j = w.heap.size) (Keeps.refl _ w4) w.heap.size (.inl rfl) u0 u1 u2 u3 u4).trans (Keeps.alloc _ o)
    exact ⟨by rw [Hcmd.out]; rfl, hr4.keeps hk5 (fun j hj => by omega), hkk.trans (hk5.mono fun j _ hj => by right; omega)⟩
  have Hend := Lib.hid hend
  clear hend hr4 hb4 hk4
  go_wp2
  exact bodyPost_ret (v := .agg #[.int .i64 (7), .int .i64 (0), .int .i64 (y1 % 4), .int .i64 ((256 * y2 + y3) * 100), .int .i64 (0)]) (by simp [results, Try.results30, go_sem, r0, r1, r2, r3, r4, rl]) rfl (Hend.out _ _ _ _ _ _)
set_option maxRecDepth 100000 in
set_option maxHeartbeats 800000 in
theorem rdCommand_7 (lo b k : Nat) (y0 y1 y2 y3 : Int) (B : List Int) (today : Int) (w : World) (h : RdAt lo w b B k) (hB : ByOk B) (hlo : lo ≤ w.heap.size) (hbl : b < w.heap.size) (ht0 : 0 ≤ today) (ht1 : today ≤ 1000000000)
    (hy0 : bt B k = y0) (hy1 : bt B (k + 1) = y1) (hy2 : bt B (k + 2) = y2) (hy3 : bt B (k + 3) = y3) (hy0a : 0 ≤ y0) (hy0b : y0 ≤ 255) (hy1a : 0 ≤ y1) (hy1b : y1 ≤ 255) (hy2a : 0 ≤ y2) (hy2b : y2 ≤ 255) (hy3a : 0 ≤ y3) (hy3b : y3 ≤ 255) (hm : y0 % 11 = 7) :
    Calls Try.prog 30 #[(.pointer (some ⟨b, 0, none⟩)), .int .i64 today] w (CmdPost lo w b B today k) := by
  have hcmd : cmdAt B today k = ⟨8, y3 % 40 + 1, 0, 0, 0⟩ := by unfold cmdAt; rw [hy0, hy1, hy2, hy3]; simp [cmdOf, hm]
  have hw0 := heap_alloc_new w (.cells #[.int .i64 0, .int .i64 0, .int .i64 0, .int .i64 0, .int .i64 0] 34)
  have ha0 := h.keeps (Keeps.alloc (S := fun _ => False) w (.cells #[.int .i64 0, .int .i64 0, .int .i64 0, .int .i64 0, .int .i64 0] 34)) (by simp)
  have hk0 : y0 % 11 + 1 = 8 := by omega
  have H := Lib.hid h; clear h; have HB := Lib.hid hB; clear hB; have Hy0 := Lib.hid hy0; clear hy0; have Hy1 := Lib.hid hy1; clear hy1; have Hy2 := Lib.hid hy2; clear hy2; have Hy3 := Lib.hid hy3; clear hy3; have Hcmd := Lib.hid hcmd; clear hcmd; have Hw0 := Lib.hid hw0; clear hw0; have Ha0 := Lib.hid ha0; clear ha0
  go_enter Try.func30, Try.ntmps30
  go_wp2_with fail
  refine (rdNum_at Ha0.out HB.out Hy0.out).mono ?_
  rintro e w1 ⟨rfl, hr1, hk1⟩
  have Hr1 := Lib.hid hr1
  have Hb1 := Lib.hid (box_old Hw0.out hk1 (by omega))
  have Hk1 := Lib.hid hk1
  clear hr1 hk1
  go_wp2_with fail
  refine (rdNum_at Hr1.out HB.out Hy1.out).mono ?_
  rintro e w2 ⟨rfl, hr2, hk2⟩
  have Hr2 := Lib.hid hr2
  have Hb2 := Lib.hid (box_old Hb1.out hk2 (by omega))
  have Hk2 := Lib.hid hk2
  clear hr2 hk2
  go_wp2_with fail
  refine (rdNum_at Hr2.out HB.out Hy2.out).mono ?_
  rintro e w3 ⟨rfl, hr3, hk3⟩
  have Hr3 := Lib.hid hr3
  have Hb3 := Lib.hid (box_old Hb2.out hk3 (by omega))
  have Hk3 := Lib.hid hk3
  clear hr3 hk3
  go_wp2_with fail
  refine (rdNum_at Hr3.out HB.out Hy3.out).mono ?_
  rintro e w4 ⟨rfl, hr4, hk4⟩
  have hb4 := box_old Hb3.out hk4 (by omega)
  have r0 := cell_of_cells hb4 0
  have r1 := cell_of_cells hb4 1
  have r2 := cell_of_cells hb4 2
  have r3 := cell_of_cells hb4 3
  have r4 := cell_of_cells hb4 4
  have f0 := free_of_cells hb4 0
  have f1 := free_of_cells hb4 1
  have f2 := free_of_cells hb4 2
  have f3 := free_of_cells hb4 3
  have f4 := free_of_cells hb4 4
  have rl := lt_of_block hb4
  have hend : ∀ (o : Obj) (u0 u1 u2 u3 u4 : Value), CmdPost lo w b B today k (.returned (.agg #[.int .i64 (8), .int .i64 (y3 % 40 + 1), .int .i64 (0), .int .i64 (0), .int .i64 (0)])) ((((((w4.setCell ⟨w.heap.size, 0, none⟩ u0).setCell ⟨w.heap.size, 1, none⟩ u1).setCell ⟨w.heap.size, 2, none⟩ u2).setCell ⟨w.heap.size, 3, none⟩ u3).setCell ⟨w.heap.size, 4, none⟩ u4).alloc o) := by
    intro o u0 u1 u2 u3 u4
    have hkk : Keeps (fun j => j = b) w w4 := (((Keeps.alloc w _).trans (Hk1.out.mono fun _ _ e => .inl e)).trans ((Hk2.out.mono fun _ _ e => .inl e))).trans ((Keeps.trans (S := fun j => j = b) Hk3.out (hk4.mono fun _ _ e => .inl e)).mono fun _ _ e => .inl e)
    have hk5 : Keeps (fun j => j = w.heap.size) w4 ((((((w4.setCell ⟨w.heap.size, 0, none⟩ u0).setCell ⟨w.heap.size, 1, none⟩ u1).setCell ⟨w.heap.size, 2, none⟩ u2).setCell ⟨w.heap.size, 3, none⟩ u3).setCell ⟨w.heap.size, 4, none⟩ u4).alloc o) :=
      (Keeps.set5 (S := fun j => j = w.heap.size) (Keeps.refl _ w4) w.heap.size (.inl rfl) u0 u1 u2 u3 u4).trans (Keeps.alloc _ o)
    exact ⟨by rw [Hcmd.out]; rfl, hr4.keeps hk5 (fun j hj => by omega), hkk.trans (hk5.mono fun j _ hj => by right; omega)⟩
  have Hend := Lib.hid hend
  clear hend hr4 hb4 hk4
  go_wp2
  exact bodyPost_ret (v := .agg #[.int .i64 (8), .int .i64 (y3 % 40 + 1), .int .i64 (0), .int .i64 (0), .int .i64 (0)]) (by simp [results, Try.results30, go_sem, r0, r1, r2, r3, r4, rl]) rfl (Hend.out _ _ _ _ _ _)
set_option maxRecDepth 100000 in
set_option maxHeartbeats 800000 in
theorem rdCommand_8 (lo b k : Nat) (y0 y1 y2 y3 : Int) (B : List Int) (today : Int) (w : World) (h : RdAt lo w b B k) (hB : ByOk B) (hlo : lo ≤ w.heap.size) (hbl : b < w.heap.size) (ht0 : 0 ≤ today) (ht1 : today ≤ 1000000000)
    (hy0 : bt B k = y0) (hy1 : bt B (k + 1) = y1) (hy2 : bt B (k + 2) = y2) (hy3 : bt B (k + 3) = y3) (hy0a : 0 ≤ y0) (hy0b : y0 ≤ 255) (hy1a : 0 ≤ y1) (hy1b : y1 ≤ 255) (hy2a : 0 ≤ y2) (hy2b : y2 ≤ 255) (hy3a : 0 ≤ y3) (hy3b : y3 ≤ 255) (hm : y0 % 11 = 8) :
    Calls Try.prog 30 #[(.pointer (some ⟨b, 0, none⟩)), .int .i64 today] w (CmdPost lo w b B today k) := by
  have hcmd : cmdAt B today k = ⟨9, 0, 0, 0, 0⟩ := by unfold cmdAt; rw [hy0, hy1, hy2, hy3]; simp [cmdOf, hm]
  have hw0 := heap_alloc_new w (.cells #[.int .i64 0, .int .i64 0, .int .i64 0, .int .i64 0, .int .i64 0] 34)
  have ha0 := h.keeps (Keeps.alloc (S := fun _ => False) w (.cells #[.int .i64 0, .int .i64 0, .int .i64 0, .int .i64 0, .int .i64 0] 34)) (by simp)
  have hk0 : y0 % 11 + 1 = 9 := by omega
  have H := Lib.hid h; clear h; have HB := Lib.hid hB; clear hB; have Hy0 := Lib.hid hy0; clear hy0; have Hy1 := Lib.hid hy1; clear hy1; have Hy2 := Lib.hid hy2; clear hy2; have Hy3 := Lib.hid hy3; clear hy3; have Hcmd := Lib.hid hcmd; clear hcmd; have Hw0 := Lib.hid hw0; clear hw0; have Ha0 := Lib.hid ha0; clear ha0
  go_enter Try.func30, Try.ntmps30
  go_wp2_with fail
  refine (rdNum_at Ha0.out HB.out Hy0.out).mono ?_
  rintro e w1 ⟨rfl, hr1, hk1⟩
  have Hr1 := Lib.hid hr1
  have Hb1 := Lib.hid (box_old Hw0.out hk1 (by omega))
  have Hk1 := Lib.hid hk1
  clear hr1 hk1
  go_wp2_with fail
  refine (rdNum_at Hr1.out HB.out Hy1.out).mono ?_
  rintro e w2 ⟨rfl, hr2, hk2⟩
  have Hr2 := Lib.hid hr2
  have Hb2 := Lib.hid (box_old Hb1.out hk2 (by omega))
  have Hk2 := Lib.hid hk2
  clear hr2 hk2
  go_wp2_with fail
  refine (rdNum_at Hr2.out HB.out Hy2.out).mono ?_
  rintro e w3 ⟨rfl, hr3, hk3⟩
  have Hr3 := Lib.hid hr3
  have Hb3 := Lib.hid (box_old Hb2.out hk3 (by omega))
  have Hk3 := Lib.hid hk3
  clear hr3 hk3
  go_wp2_with fail
  refine (rdNum_at Hr3.out HB.out Hy3.out).mono ?_
  rintro e w4 ⟨rfl, hr4, hk4⟩
  have hb4 := box_old Hb3.out hk4 (by omega)
  have r0 := cell_of_cells hb4 0
  have r1 := cell_of_cells hb4 1
  have r2 := cell_of_cells hb4 2
  have r3 := cell_of_cells hb4 3
  have r4 := cell_of_cells hb4 4
  have f0 := free_of_cells hb4 0
  have f1 := free_of_cells hb4 1
  have f2 := free_of_cells hb4 2
  have f3 := free_of_cells hb4 3
  have f4 := free_of_cells hb4 4
  have rl := lt_of_block hb4
  have hend : ∀ (o : Obj) (u0 u1 u2 u3 u4 : Value), CmdPost lo w b B today k (.returned (.agg #[.int .i64 (9), .int .i64 (0), .int .i64 (0), .int .i64 (0), .int .i64 (0)])) ((((((w4.setCell ⟨w.heap.size, 0, none⟩ u0).setCell ⟨w.heap.size, 1, none⟩ u1).setCell ⟨w.heap.size, 2, none⟩ u2).setCell ⟨w.heap.size, 3, none⟩ u3).setCell ⟨w.heap.size, 4, none⟩ u4).alloc o) := by
    intro o u0 u1 u2 u3 u4
    have hkk : Keeps (fun j => j = b) w w4 := (((Keeps.alloc w _).trans (Hk1.out.mono fun _ _ e => .inl e)).trans ((Hk2.out.mono fun _ _ e => .inl e))).trans ((Keeps.trans (S := fun j => j = b) Hk3.out (hk4.mono fun _ _ e => .inl e)).mono fun _ _ e => .inl e)
    have hk5 : Keeps (fun j => j = w.heap.size) w4 ((((((w4.setCell ⟨w.heap.size, 0, none⟩ u0).setCell ⟨w.heap.size, 1, none⟩ u1).setCell ⟨w.heap.size, 2, none⟩ u2).setCell ⟨w.heap.size, 3, none⟩ u3).setCell ⟨w.heap.size, 4, none⟩ u4).alloc o) :=
      (Keeps.set5 (S := fun j => j = w.heap.size) (Keeps.refl _ w4) w.heap.size (.inl rfl) u0 u1 u2 u3 u4).trans (Keeps.alloc _ o)
    exact ⟨by rw [Hcmd.out]; rfl, hr4.keeps hk5 (fun j hj => by omega), hkk.trans (hk5.mono fun j _ hj => by right; omega)⟩
  have Hend := Lib.hid hend
  clear hend hr4 hb4 hk4
  go_wp2
  exact bodyPost_ret (v := .agg #[.int .i64 (9), .int .i64 (0), .int .i64 (0), .int .i64 (0), .int .i64 (0)]) (by simp [results, Try.results30, go_sem, r0, r1, r2, r3, r4, rl]) rfl (Hend.out _ _ _ _ _ _)
set_option maxRecDepth 100000 in
set_option maxHeartbeats 800000 in
theorem rdCommand_9 (lo b k : Nat) (y0 y1 y2 y3 : Int) (B : List Int) (today : Int) (w : World) (h : RdAt lo w b B k) (hB : ByOk B) (hlo : lo ≤ w.heap.size) (hbl : b < w.heap.size) (ht0 : 0 ≤ today) (ht1 : today ≤ 1000000000)
    (hy0 : bt B k = y0) (hy1 : bt B (k + 1) = y1) (hy2 : bt B (k + 2) = y2) (hy3 : bt B (k + 3) = y3) (hy0a : 0 ≤ y0) (hy0b : y0 ≤ 255) (hy1a : 0 ≤ y1) (hy1b : y1 ≤ 255) (hy2a : 0 ≤ y2) (hy2b : y2 ≤ 255) (hy3a : 0 ≤ y3) (hy3b : y3 ≤ 255) (hm : y0 % 11 = 9) :
    Calls Try.prog 30 #[(.pointer (some ⟨b, 0, none⟩)), .int .i64 today] w (CmdPost lo w b B today k) := by
  have hcmd : cmdAt B today k = ⟨10, 0, 0, 0, y2 % 8 + 1⟩ := by unfold cmdAt; rw [hy0, hy1, hy2, hy3]; simp [cmdOf, hm]
  have hw0 := heap_alloc_new w (.cells #[.int .i64 0, .int .i64 0, .int .i64 0, .int .i64 0, .int .i64 0] 34)
  have ha0 := h.keeps (Keeps.alloc (S := fun _ => False) w (.cells #[.int .i64 0, .int .i64 0, .int .i64 0, .int .i64 0, .int .i64 0] 34)) (by simp)
  have hk0 : y0 % 11 + 1 = 10 := by omega
  have H := Lib.hid h; clear h; have HB := Lib.hid hB; clear hB; have Hy0 := Lib.hid hy0; clear hy0; have Hy1 := Lib.hid hy1; clear hy1; have Hy2 := Lib.hid hy2; clear hy2; have Hy3 := Lib.hid hy3; clear hy3; have Hcmd := Lib.hid hcmd; clear hcmd; have Hw0 := Lib.hid hw0; clear hw0; have Ha0 := Lib.hid ha0; clear ha0
  go_enter Try.func30, Try.ntmps30
  go_wp2_with fail
  refine (rdNum_at Ha0.out HB.out Hy0.out).mono ?_
  rintro e w1 ⟨rfl, hr1, hk1⟩
  have Hr1 := Lib.hid hr1
  have Hb1 := Lib.hid (box_old Hw0.out hk1 (by omega))
  have Hk1 := Lib.hid hk1
  clear hr1 hk1
  go_wp2_with fail
  refine (rdNum_at Hr1.out HB.out Hy1.out).mono ?_
  rintro e w2 ⟨rfl, hr2, hk2⟩
  have Hr2 := Lib.hid hr2
  have Hb2 := Lib.hid (box_old Hb1.out hk2 (by omega))
  have Hk2 := Lib.hid hk2
  clear hr2 hk2
  go_wp2_with fail
  refine (rdNum_at Hr2.out HB.out Hy2.out).mono ?_
  rintro e w3 ⟨rfl, hr3, hk3⟩
  have Hr3 := Lib.hid hr3
  have Hb3 := Lib.hid (box_old Hb2.out hk3 (by omega))
  have Hk3 := Lib.hid hk3
  clear hr3 hk3
  go_wp2_with fail
  refine (rdNum_at Hr3.out HB.out Hy3.out).mono ?_
  rintro e w4 ⟨rfl, hr4, hk4⟩
  have hb4 := box_old Hb3.out hk4 (by omega)
  have r0 := cell_of_cells hb4 0
  have r1 := cell_of_cells hb4 1
  have r2 := cell_of_cells hb4 2
  have r3 := cell_of_cells hb4 3
  have r4 := cell_of_cells hb4 4
  have f0 := free_of_cells hb4 0
  have f1 := free_of_cells hb4 1
  have f2 := free_of_cells hb4 2
  have f3 := free_of_cells hb4 3
  have f4 := free_of_cells hb4 4
  have rl := lt_of_block hb4
  have hend : ∀ (o : Obj) (u0 u1 u2 u3 u4 : Value), CmdPost lo w b B today k (.returned (.agg #[.int .i64 (10), .int .i64 (0), .int .i64 (0), .int .i64 (0), .int .i64 (y2 % 8 + 1)])) ((((((w4.setCell ⟨w.heap.size, 0, none⟩ u0).setCell ⟨w.heap.size, 1, none⟩ u1).setCell ⟨w.heap.size, 2, none⟩ u2).setCell ⟨w.heap.size, 3, none⟩ u3).setCell ⟨w.heap.size, 4, none⟩ u4).alloc o) := by
    intro o u0 u1 u2 u3 u4
    have hkk : Keeps (fun j => j = b) w w4 := (((Keeps.alloc w _).trans (Hk1.out.mono fun _ _ e => .inl e)).trans ((Hk2.out.mono fun _ _ e => .inl e))).trans ((Keeps.trans (S := fun j => j = b) Hk3.out (hk4.mono fun _ _ e => .inl e)).mono fun _ _ e => .inl e)
    have hk5 : Keeps (fun j => j = w.heap.size) w4 ((((((w4.setCell ⟨w.heap.size, 0, none⟩ u0).setCell ⟨w.heap.size, 1, none⟩ u1).setCell ⟨w.heap.size, 2, none⟩ u2).setCell ⟨w.heap.size, 3, none⟩ u3).setCell ⟨w.heap.size, 4, none⟩ u4).alloc o) :=
      (Keeps.set5 (S := fun j => j = w.heap.size) (Keeps.refl _ w4) w.heap.size (.inl rfl) u0 u1 u2 u3 u4).trans (Keeps.alloc _ o)
    exact ⟨by rw [Hcmd.out]; rfl, hr4.keeps hk5 (fun j hj => by omega), hkk.trans (hk5.mono fun j _ hj => by right; omega)⟩
  have Hend := Lib.hid hend
  clear hend hr4 hb4 hk4
  go_wp2
  exact bodyPost_ret (v := .agg #[.int .i64 (10), .int .i64 (0), .int .i64 (0), .int .i64 (0), .int .i64 (y2 % 8 + 1)]) (by simp [results, Try.results30, go_sem, r0, r1, r2, r3, r4, rl]) rfl (Hend.out _ _ _ _ _ _)
set_option maxRecDepth 100000 in
set_option maxHeartbeats 800000 in
theorem rdCommand_10 (lo b k : Nat) (y0 y1 y2 y3 : Int) (B : List Int) (today : Int) (w : World) (h : RdAt lo w b B k) (hB : ByOk B) (hlo : lo ≤ w.heap.size) (hbl : b < w.heap.size) (ht0 : 0 ≤ today) (ht1 : today ≤ 1000000000)
    (hy0 : bt B k = y0) (hy1 : bt B (k + 1) = y1) (hy2 : bt B (k + 2) = y2) (hy3 : bt B (k + 3) = y3) (hy0a : 0 ≤ y0) (hy0b : y0 ≤ 255) (hy1a : 0 ≤ y1) (hy1b : y1 ≤ 255) (hy2a : 0 ≤ y2) (hy2b : y2 ≤ 255) (hy3a : 0 ≤ y3) (hy3b : y3 ≤ 255) (hm : y0 % 11 = 10) :
    Calls Try.prog 30 #[(.pointer (some ⟨b, 0, none⟩)), .int .i64 today] w (CmdPost lo w b B today k) := by
  have hcmd : cmdAt B today k = ⟨11, 0, 0, 0, y2 % 8 + 1⟩ := by unfold cmdAt; rw [hy0, hy1, hy2, hy3]; simp [cmdOf, hm]
  have hw0 := heap_alloc_new w (.cells #[.int .i64 0, .int .i64 0, .int .i64 0, .int .i64 0, .int .i64 0] 34)
  have ha0 := h.keeps (Keeps.alloc (S := fun _ => False) w (.cells #[.int .i64 0, .int .i64 0, .int .i64 0, .int .i64 0, .int .i64 0] 34)) (by simp)
  have hk0 : y0 % 11 + 1 = 11 := by omega
  have H := Lib.hid h; clear h; have HB := Lib.hid hB; clear hB; have Hy0 := Lib.hid hy0; clear hy0; have Hy1 := Lib.hid hy1; clear hy1; have Hy2 := Lib.hid hy2; clear hy2; have Hy3 := Lib.hid hy3; clear hy3; have Hcmd := Lib.hid hcmd; clear hcmd; have Hw0 := Lib.hid hw0; clear hw0; have Ha0 := Lib.hid ha0; clear ha0
  go_enter Try.func30, Try.ntmps30
  go_wp2_with fail
  refine (rdNum_at Ha0.out HB.out Hy0.out).mono ?_
  rintro e w1 ⟨rfl, hr1, hk1⟩
  have Hr1 := Lib.hid hr1
  have Hb1 := Lib.hid (box_old Hw0.out hk1 (by omega))
  have Hk1 := Lib.hid hk1
  clear hr1 hk1
  go_wp2_with fail
  refine (rdNum_at Hr1.out HB.out Hy1.out).mono ?_
  rintro e w2 ⟨rfl, hr2, hk2⟩
  have Hr2 := Lib.hid hr2
  have Hb2 := Lib.hid (box_old Hb1.out hk2 (by omega))
  have Hk2 := Lib.hid hk2
  clear hr2 hk2
  go_wp2_with fail
  refine (rdNum_at Hr2.out HB.out Hy2.out).mono ?_
  rintro e w3 ⟨rfl, hr3, hk3⟩
  have Hr3 := Lib.hid hr3
  have Hb3 := Lib.hid (box_old Hb2.out hk3 (by omega))
  have Hk3 := Lib.hid hk3
  clear hr3 hk3
  go_wp2_with fail
  refine (rdNum_at Hr3.out HB.out Hy3.out).mono ?_
  rintro e w4 ⟨rfl, hr4, hk4⟩
  have hb4 := box_old Hb3.out hk4 (by omega)
  have r0 := cell_of_cells hb4 0
  have r1 := cell_of_cells hb4 1
  have r2 := cell_of_cells hb4 2
  have r3 := cell_of_cells hb4 3
  have r4 := cell_of_cells hb4 4
  have f0 := free_of_cells hb4 0
  have f1 := free_of_cells hb4 1
  have f2 := free_of_cells hb4 2
  have f3 := free_of_cells hb4 3
  have f4 := free_of_cells hb4 4
  have rl := lt_of_block hb4
  have hend : ∀ (o : Obj) (u0 u1 u2 u3 u4 : Value), CmdPost lo w b B today k (.returned (.agg #[.int .i64 (11), .int .i64 (0), .int .i64 (0), .int .i64 (0), .int .i64 (y2 % 8 + 1)])) ((((((w4.setCell ⟨w.heap.size, 0, none⟩ u0).setCell ⟨w.heap.size, 1, none⟩ u1).setCell ⟨w.heap.size, 2, none⟩ u2).setCell ⟨w.heap.size, 3, none⟩ u3).setCell ⟨w.heap.size, 4, none⟩ u4).alloc o) := by
    intro o u0 u1 u2 u3 u4
    have hkk : Keeps (fun j => j = b) w w4 := (((Keeps.alloc w _).trans (Hk1.out.mono fun _ _ e => .inl e)).trans ((Hk2.out.mono fun _ _ e => .inl e))).trans ((Keeps.trans (S := fun j => j = b) Hk3.out (hk4.mono fun _ _ e => .inl e)).mono fun _ _ e => .inl e)
    have hk5 : Keeps (fun j => j = w.heap.size) w4 ((((((w4.setCell ⟨w.heap.size, 0, none⟩ u0).setCell ⟨w.heap.size, 1, none⟩ u1).setCell ⟨w.heap.size, 2, none⟩ u2).setCell ⟨w.heap.size, 3, none⟩ u3).setCell ⟨w.heap.size, 4, none⟩ u4).alloc o) :=
      (Keeps.set5 (S := fun j => j = w.heap.size) (Keeps.refl _ w4) w.heap.size (.inl rfl) u0 u1 u2 u3 u4).trans (Keeps.alloc _ o)
    exact ⟨by rw [Hcmd.out]; rfl, hr4.keeps hk5 (fun j hj => by omega), hkk.trans (hk5.mono fun j _ hj => by right; omega)⟩
  have Hend := Lib.hid hend
  clear hend hr4 hb4 hk4
  go_wp2
  exact bodyPost_ret (v := .agg #[.int .i64 (11), .int .i64 (0), .int .i64 (0), .int .i64 (0), .int .i64 (y2 % 8 + 1)]) (by simp [results, Try.results30, go_sem, r0, r1, r2, r3, r4, rl]) rfl (Hend.out _ _ _ _ _ _)
theorem rdCommand_any (lo b k : Nat) (B : List Int) (today : Int) (w : World) (h : RdAt lo w b B k) (hB : ByOk B) (hlo : lo ≤ w.heap.size) (hbl : b < w.heap.size) (ht0 : 0 ≤ today) (ht1 : today ≤ 1000000000) :
    Calls Try.prog 30 #[(.pointer (some ⟨b, 0, none⟩)), .int .i64 today] w (CmdPost lo w b B today k) := by
  obtain ⟨y0, hy0, hy0a, hy0b⟩ := bt_ex hB k
  obtain ⟨y1, hy1, hy1a, hy1b⟩ := bt_ex hB (k + 1)
  obtain ⟨y2, hy2, hy2a, hy2b⟩ := bt_ex hB (k + 2)
  obtain ⟨y3, hy3, hy3a, hy3b⟩ := bt_ex hB (k + 3)
  rcases (show y0 % 11 = 0 ∨ y0 % 11 = 1 ∨ y0 % 11 = 2 ∨ y0 % 11 = 3 ∨ y0 % 11 = 4 ∨ y0 % 11 = 5 ∨ y0 % 11 = 6 ∨ y0 % 11 = 7 ∨ y0 % 11 = 8 ∨ y0 % 11 = 9 ∨ y0 % 11 = 10 from by omega) with hm | hm | hm | hm | hm | hm | hm | hm | hm | hm | hm
  · exact rdCommand_0 lo b k y0 y1 y2 y3 B today w h hB hlo hbl ht0 ht1 hy0 hy1 hy2 hy3 hy0a hy0b hy1a hy1b hy2a hy2b hy3a hy3b hm
  · exact rdCommand_1 lo b k y0 y1 y2 y3 B today w h hB hlo hbl ht0 ht1 hy0 hy1 hy2 hy3 hy0a hy0b hy1a hy1b hy2a hy2b hy3a hy3b hm
  · exact rdCommand_2 lo b k y0 y1 y2 y3 B today w h hB hlo hbl ht0 ht1 hy0 hy1 hy2 hy3 hy0a hy0b hy1a hy1b hy2a hy2b hy3a hy3b hm
  · exact rdCommand_3 lo b k y0 y1 y2 y3 B today w h hB hlo hbl ht0 ht1 hy0 hy1 hy2 hy3 hy0a hy0b hy1a hy1b hy2a hy2b hy3a hy3b hm
  · exact rdCommand_4 lo b k y0 y1 y2 y3 B today w h hB hlo hbl ht0 ht1 hy0 hy1 hy2 hy3 hy0a hy0b hy1a hy1b hy2a hy2b hy3a hy3b hm
  · exact rdCommand_5 lo b k y0 y1 y2 y3 B today w h hB hlo hbl ht0 ht1 hy0 hy1 hy2 hy3 hy0a hy0b hy1a hy1b hy2a hy2b hy3a hy3b hm
  · exact rdCommand_6 lo b k y0 y1 y2 y3 B today w h hB hlo hbl ht0 ht1 hy0 hy1 hy2 hy3 hy0a hy0b hy1a hy1b hy2a hy2b hy3a hy3b hm
  · exact rdCommand_7 lo b k y0 y1 y2 y3 B today w h hB hlo hbl ht0 ht1 hy0 hy1 hy2 hy3 hy0a hy0b hy1a hy1b hy2a hy2b hy3a hy3b hm
  · exact rdCommand_8 lo b k y0 y1 y2 y3 B today w h hB hlo hbl ht0 ht1 hy0 hy1 hy2 hy3 hy0a hy0b hy1a hy1b hy2a hy2b hy3a hy3b hm
  · exact rdCommand_9 lo b k y0 y1 y2 y3 B today w h hB hlo hbl ht0 ht1 hy0 hy1 hy2 hy3 hy0a hy0b hy1a hy1b hy2a hy2b hy3a hy3b hm
  · exact rdCommand_10 lo b k y0 y1 y2 y3 B today w h hB hlo hbl ht0 ht1 hy0 hy1 hy2 hy3 hy0a hy0b hy1a hy1b hy2a hy2b hy3a hy3b hm
end Go.Proofs.Ythokcmbgamanbaa
