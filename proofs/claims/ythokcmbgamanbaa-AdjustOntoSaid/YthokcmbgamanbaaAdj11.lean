/- AdjustRefused, walked. -/
import Derived.Test.YthokcmbgamanbaaAdj10
import Derived.Test.YthokcmbgamanbaaPage8
import Derived.Deep.CutBlock
namespace Go.Proofs.Ythokcmbgamanbaa
open Go.RowKit
def stR : Stm := ⟨1, 1, 2, 0, 5, 0, 0, false, [⟨5, 0, 0⟩]⟩
/-- The statement that AdjustRefused lays, and its line. -/
structure RefS (w W : World) : Prop where
  ln : W.heap[w.heap.size]? = some (.cells #[.int .i64 5, .int .i64 0, .int .i64 0] 62 (0, 0))
  st : W.heap[w.heap.size + 1]? = some (.cells #[.int .i64 1, .int .i64 1, .int .i64 2, .int .i64 0, .slice (some ⟨w.heap.size, 0, none⟩) 1 1, .int .i64 5, .int .i64 0, .int .i64 0, .bool false] 44 (0, 0))
  kp : Keeps (fun _ => False) w W
theorem RefS.keep {w W W' : World} (h : RefS w W) (hk : Keeps (fun _ => False) W W') : RefS w W' := ⟨box_old h.ln hk (by simp), box_old h.st hk (by simp), h.kp.none_trans hk⟩
theorem RefS.keep2 {w W W' : World} {S : Nat → Prop} (h : RefS w W) (hk : Keeps S W W') (hS : ∀ i, S i → w.heap.size + 1 < i) : RefS w W' :=
  ⟨box_old h.ln hk (fun e => by have := hS _ e; omega), box_old h.st hk (fun e => by have := hS _ e; omega), h.kp.trans (hk.mono fun i _ e => by right; have := hS i e; omega)⟩
theorem RefS.rd {w W : World} (h : RefS w W) : Reads W 3 (.slice (some ⟨w.heap.size, 0, none⟩) 1 1) stR.lines.length (stR.lines.flatMap Ln.cells) := reads_line (x := ⟨5, 0, 0⟩) h.ln
theorem onto_err {s : Stm} {L : List Adj} {w w' : World} {e : Ending} {n : Int} (h : OntoPost s L w e w') (hc : (s.ontos L).1 = n) (hn : n ≠ 0) : e = .returned (.tuple #[.agg #[.int .i64 0, .int .i64 0, .int .i64 0, .int .i64 0, .slice none 0 0, .int .i64 0, .int .i64 0, .int .i64 0, .bool false], .int .i64 n]) ∧ Keeps (fun _ => False) w w' := by
  obtain ⟨hk, ⟨h0, _⟩ | ⟨_, he⟩⟩ := h
  · exact absurd (hc.symm.trans h0) hn
  · exact ⟨by rw [he, hc]; rfl, hk⟩
theorem onto_goodR {L : List Adj} {w w' : World} {e : Ending} (h : OntoPost stR L w e w') (hc : stR.ontos L = (0, stR)) : ∃ v, e = .returned (.tuple #[.agg #[.int .i64 1, .int .i64 1, .int .i64 2, .int .i64 0, v, .int .i64 5, .int .i64 0, .int .i64 0, .bool false], .int .i64 0]) ∧ w'.ownsRow 0 62 3 v stR.lines.length (stR.lines.flatMap Ln.cells) ∧ Keeps (fun _ => False) w w' := by
  obtain ⟨hk, ⟨_, v, he, h1, h2⟩ | ⟨h0, _⟩⟩ := h
  · rw [hc] at he h1; exact ⟨v, he, h1, hk⟩
  · rw [hc] at h0; exact absurd rfl h0
theorem reads_adj {w : World} {B : Nat} {x : Adj} {fz : Nat × Nat} (h : w.heap[B]? = some (.cells x.cells.toArray 69 fz)) : Reads w 9 (.slice (some ⟨B, 0, none⟩) 1 1) 1 ([x].flatMap Adj.cells) := by
  have := Reads.blk (size := 9) (n := 1) h (by simp [Adj.cells])
  simpa using this
theorem onto_r1 {z : Int} (hz : 0 ≤ z) : (stR.ontos [⟨0, 1, 1, -5 - (1 + z), 0, 0, 0, 0, 0⟩]).1 = 5 := by
  have h : moreB 5 (-5 - (1 + z)) = false := by
    have hm : ∀ x, moneyB x = decide (0 ≤ x ∧ x ≤ 1000000000000000) := fun _ => rfl
    unfold moreB
    rw [hm (5 + _)]
    have : decide (0 ≤ 5 + (-5 - (1 + z)) ∧ 5 + (-5 - (1 + z)) ≤ 1000000000000000) = false := by simp; omega
    rw [this]; simp
  simp [Stm.ontos, Stm.onto, stR, h]
set_option maxRecDepth 100000 in
set_option maxHeartbeats 3200000 in
theorem adjRefused_walk (w : World) (what : Int) (hwhat : (Lit.int .i64 what).wf = true) (v : Int) (hv : (Lit.int .i64 v).wf = true) : Calls Try.prog 8 #[.int .i64 what, .int .i64 v] w fun e w' => e = .returned (.bool true) ∧ Below w.heap.size w w' := by
  obtain ⟨z, hz⟩ : ∃ z, (IntKind.u64.wrap v).tmod 1000 = z := ⟨_, rfl⟩
  obtain ⟨r, hr⟩ : ∃ r, (IntKind.u64.wrap what).tmod 4 = r := ⟨_, rfl⟩
  have hz1 : 0 ≤ z ∧ z ≤ 999 := by
    have := IntKind.wrap_u64 v
    rw [← hz, this]
    have h0 : (0 : Int) ≤ v % 18446744073709551616 := Int.emod_nonneg _ (by omega)
    rw [Int.tmod_eq_emod_of_nonneg h0]; constructor <;> omega
  have hr1 : 0 ≤ r ∧ r ≤ 3 := by
    have := IntKind.wrap_u64 what
    rw [← hr, this]
    have h0 : (0 : Int) ≤ what % 18446744073709551616 := Int.emod_nonneg _ (by omega)
    rw [Int.tmod_eq_emod_of_nonneg h0]; constructor <;> omega
  obtain ⟨z0, z1⟩ := hz1
  have e1 : IntKind.i64.wrap z = z := IntWalk.i64_in _ ⟨by omega, by omega⟩
  have e2 : IntKind.i64.wrap (1 + z) = 1 + z := IntWalk.i64_in _ ⟨by omega, by omega⟩
  clear hwhat hv
  go_enter Try.func8, Try.ntmps8
  go_upto_block 0 with (fail)
  go_cut [6] (fun s6 wx => s6 = (.pointer (some ⟨w.heap.size + 1 + 1, 0, none⟩)) ∧ ∃ sb ad cap, Hid (wx.heap[w.heap.size + 1 + 1]? = some (.cells (SV.cells ⟨sb, ad, cap⟩).toArray 44 (0, 0))) ∧ Hid (Reads wx 3 (.slice ad sb.lines.length cap) sb.lines.length (sb.lines.flatMap Ln.cells) ∧ sb.lines.length ≤ 1000) ∧ Hid (alikeB stR sb = false) ∧ Hid (RefS w wx))
  case first =>
    rcases (show r = 0 ∨ r = 1 ∨ r = 2 ∨ r = 3 by omega) with rfl | rfl | rfl | rfl
    · go_wp2
      go_meet
      refine ⟨rfl, ⟨2, 1, 2, 0, 5, 0, 0, false, [⟨5, 0, 0⟩]⟩, some ⟨w.heap.size, 0, none⟩, 1, Lib.hid ?_, Lib.hid ⟨reads_line (x := ⟨5, 0, 0⟩) (by (repeat (first | exact heap_alloc_at _ _ (by simp; done) | refine box_alloc ?_ _))), by simp⟩, Lib.hid rfl, Lib.hid ⟨by (repeat (first | exact heap_alloc_at _ _ (by simp; done) | refine box_alloc ?_ _)), by (repeat (first | exact heap_alloc_at _ _ (by simp; done) | refine box_alloc ?_ _)), by (repeat (first | exact Keeps.refl _ _ | exact Keeps.alloc _ _ | exact Keeps.drew _ | exact Keeps.drewN _ _ | refine Keeps.trans_drew ?_ | refine Keeps.trans_drewN ?_ | refine Keeps.trans_alloc ?_))⟩⟩
      exact heap_alloc_at _ _ (by simp)
    · go_wp2
      go_meet
      refine ⟨rfl, ⟨1, 1, 3, 0, 5, 0, 0, false, [⟨5, 0, 0⟩]⟩, some ⟨w.heap.size, 0, none⟩, 1, Lib.hid ?_, Lib.hid ⟨reads_line (x := ⟨5, 0, 0⟩) (by (repeat (first | exact heap_alloc_at _ _ (by simp; done) | refine box_alloc ?_ _))), by simp⟩, Lib.hid rfl, Lib.hid ⟨by (repeat (first | exact heap_alloc_at _ _ (by simp; done) | refine box_alloc ?_ _)), by (repeat (first | exact heap_alloc_at _ _ (by simp; done) | refine box_alloc ?_ _)), by (repeat (first | exact Keeps.refl _ _ | exact Keeps.alloc _ _ | exact Keeps.drew _ | exact Keeps.drewN _ _ | refine Keeps.trans_drew ?_ | refine Keeps.trans_drewN ?_ | refine Keeps.trans_alloc ?_))⟩⟩
      exact heap_alloc_at _ _ (by simp)
    · go_wp2
      go_meet
      refine ⟨rfl, ⟨1, 1, 2, 0, 5, 0, 0, false, [⟨0, 0, 0⟩, ⟨0, 0, 0⟩]⟩, some ⟨w.heap.size + 1 + 1 + 1, 0, none⟩, 2, Lib.hid (by (repeat (first | exact heap_alloc_at _ _ (by simp; done) | refine box_alloc ?_ _))), Lib.hid ⟨?_, by simp⟩, Lib.hid rfl, Lib.hid ⟨by (repeat (first | exact heap_alloc_at _ _ (by simp; done) | refine box_alloc ?_ _)), by (repeat (first | exact heap_alloc_at _ _ (by simp; done) | refine box_alloc ?_ _)), by (repeat (first | exact Keeps.refl _ _ | exact Keeps.alloc _ _ | exact Keeps.drew _ | exact Keeps.drewN _ _ | refine Keeps.trans_drew ?_ | refine Keeps.trans_drewN ?_ | refine Keeps.trans_alloc ?_))⟩⟩
      have hz0 := heap_alloc_at (((w.alloc (.cells #[.int .i64 5, .int .i64 0, .int .i64 0] 62)).alloc (.cells #[.int .i64 1, .int .i64 1, .int .i64 2, .int .i64 0, .slice (some ⟨w.heap.size, 0, none⟩) 1 1, .int .i64 5, .int .i64 0, .int .i64 0, .bool false] 44)).alloc (.cells #[.int .i64 1, .int .i64 1, .int .i64 2, .int .i64 0, .slice (some ⟨w.heap.size + 1 + 1 + 1, 0, none⟩) 2 2, .int .i64 5, .int .i64 0, .int .i64 0, .bool false] 44)) (.cells #[.int .i64 0, .int .i64 0, .int .i64 0, .int .i64 0, .int .i64 0, .int .i64 0] 62) (i := w.heap.size + 1 + 1 + 1) (by simp)
      have := Reads.blk (size := 3) (n := 2) hz0 (by simp)
      simpa [Ln.cells] using this
    · go_wp2
      go_meet
      refine ⟨rfl, ⟨1, 1, 2, 0, 5, 0, 0, false, []⟩, none, 0, Lib.hid ?_, Lib.hid ⟨Reads.nil _ _, by simp⟩, Lib.hid rfl, Lib.hid ⟨by (repeat (first | exact heap_alloc_at _ _ (by simp; done) | refine box_alloc ?_ _)), by (repeat (first | exact heap_alloc_at _ _ (by simp; done) | refine box_alloc ?_ _)), by (repeat (first | exact Keeps.refl _ _ | exact Keeps.alloc _ _ | exact Keeps.drew _ | exact Keeps.drewN _ _ | refine Keeps.trans_drew ?_ | refine Keeps.trans_drewN ?_ | refine Keeps.trans_alloc ?_))⟩⟩
      exact heap_alloc_at _ _ (by simp)
  case rest =>
    obtain ⟨rfl, sb, ad, cap, HB, Hrd, Hal, HR⟩ := hcut
    have c0 : World.cell? _ (⟨w.heap.size + 1, 0, none⟩ : Addr) = some (.int .i64 1) := cell_of_cells HR.out.st 0
    have c1 : World.cell? _ (⟨w.heap.size + 1, 1, none⟩ : Addr) = some (.int .i64 1) := cell_of_cells HR.out.st 1
    have c2 : World.cell? _ (⟨w.heap.size + 1, 2, none⟩ : Addr) = some (.int .i64 2) := cell_of_cells HR.out.st 2
    have c3 : World.cell? _ (⟨w.heap.size + 1, 3, none⟩ : Addr) = some (.int .i64 0) := cell_of_cells HR.out.st 3
    have c4 : World.cell? _ (⟨w.heap.size + 1, 4, none⟩ : Addr) = some (.slice (some ⟨w.heap.size, 0, none⟩) 1 1) := cell_of_cells HR.out.st 4
    have c5 : World.cell? _ (⟨w.heap.size + 1, 5, none⟩ : Addr) = some (.int .i64 5) := cell_of_cells HR.out.st 5
    have c6 : World.cell? _ (⟨w.heap.size + 1, 6, none⟩ : Addr) = some (.int .i64 0) := cell_of_cells HR.out.st 6
    have c7 : World.cell? _ (⟨w.heap.size + 1, 7, none⟩ : Addr) = some (.int .i64 0) := cell_of_cells HR.out.st 7
    have c8 : World.cell? _ (⟨w.heap.size + 1, 8, none⟩ : Addr) = some (.bool false) := cell_of_cells HR.out.st 8
    have d0 : World.cell? _ (⟨w.heap.size + 1 + 1, 0, none⟩ : Addr) = some (.int .i64 sb.cycle) := cell_of_cells HB.out 0
    have d1 : World.cell? _ (⟨w.heap.size + 1 + 1, 1, none⟩ : Addr) = some (.int .i64 sb.fr) := cell_of_cells HB.out 1
    have d2 : World.cell? _ (⟨w.heap.size + 1 + 1, 2, none⟩ : Addr) = some (.int .i64 sb.to) := cell_of_cells HB.out 2
    have d3 : World.cell? _ (⟨w.heap.size + 1 + 1, 3, none⟩ : Addr) = some (.int .i64 sb.due) := cell_of_cells HB.out 3
    have d4 : World.cell? _ (⟨w.heap.size + 1 + 1, 4, none⟩ : Addr) = some (.slice ad sb.lines.length cap) := cell_of_cells HB.out 4
    have d5 : World.cell? _ (⟨w.heap.size + 1 + 1, 5, none⟩ : Addr) = some (.int .i64 sb.total) := cell_of_cells HB.out 5
    have d6 : World.cell? _ (⟨w.heap.size + 1 + 1, 6, none⟩ : Addr) = some (.int .i64 sb.credit) := cell_of_cells HB.out 6
    have d7 : World.cell? _ (⟨w.heap.size + 1 + 1, 7, none⟩ : Addr) = some (.int .i64 sb.min) := cell_of_cells HB.out 7
    have d8 : World.cell? _ (⟨w.heap.size + 1 + 1, 8, none⟩ : Addr) = some (.bool sb.grace) := cell_of_cells HB.out 8
    have hBl := lt_of_block HB.out
    have hAl := lt_of_block HR.out.st
    go_wp2_with fail
    refine (between_one 1 _ _ ⟨stR, some ⟨w.heap.size, 0, none⟩, 1⟩ ⟨sb, ad, cap⟩ (1, []) _ (by (repeat (first | exact heap_alloc_at _ _ (by simp; done) | refine box_alloc ?_ _))) (by (repeat (first | exact heap_alloc_at _ _ (by simp; done) | refine box_alloc ?_ _))) ⟨HR.out.rd.keeps (S := fun _ => False) (by (repeat (first | exact Keeps.refl _ _ | exact Keeps.alloc _ _ | exact Keeps.drew _ | exact Keeps.drewN _ _ | refine Keeps.trans_drew ?_ | refine Keeps.trans_drewN ?_ | refine Keeps.trans_alloc ?_))) (by simp), by simp [stR]⟩ ⟨Hrd.out.1.keeps (S := fun _ => False) (by (repeat (first | exact Keeps.refl _ _ | exact Keeps.alloc _ _ | exact Keeps.drew _ | exact Keeps.drewN _ _ | refine Keeps.trans_drew ?_ | refine Keeps.trans_drewN ?_ | refine Keeps.trans_alloc ?_))) (by simp), Hrd.out.2⟩ (.inr ⟨fun h => by have := h.2 0 _ _ (by simp) rfl rfl; rw [Hal.out] at this; simp at this, rfl⟩)).mono ?_
    rintro e w1 ⟨v1, rfl, hrow1, hfr1⟩
    have hR1 := HR.out.keep (Keeps.none_trans (by (repeat (first | exact Keeps.refl _ _ | exact Keeps.alloc _ _ | exact Keeps.drew _ | exact Keeps.drewN _ _ | refine Keeps.trans_drew ?_ | refine Keeps.trans_drewN ?_ | refine Keeps.trans_alloc ?_))) hfr1.1)
    clear c0 c1 c2 c3 c4 c5 c6 c7 c8 d0 d1 d2 d3 d4 d5 d6 d7 d8 hBl hAl
    have hAl := lt_of_block hR1.st
    have c0 : World.cell? _ (⟨w.heap.size + 1, 0, none⟩ : Addr) = some (.int .i64 1) := cell_of_cells hR1.st 0
    have c1 : World.cell? _ (⟨w.heap.size + 1, 1, none⟩ : Addr) = some (.int .i64 1) := cell_of_cells hR1.st 1
    have c2 : World.cell? _ (⟨w.heap.size + 1, 2, none⟩ : Addr) = some (.int .i64 2) := cell_of_cells hR1.st 2
    have c3 : World.cell? _ (⟨w.heap.size + 1, 3, none⟩ : Addr) = some (.int .i64 0) := cell_of_cells hR1.st 3
    have c4 : World.cell? _ (⟨w.heap.size + 1, 4, none⟩ : Addr) = some (.slice (some ⟨w.heap.size, 0, none⟩) 1 1) := cell_of_cells hR1.st 4
    have c5 : World.cell? _ (⟨w.heap.size + 1, 5, none⟩ : Addr) = some (.int .i64 5) := cell_of_cells hR1.st 5
    have c6 : World.cell? _ (⟨w.heap.size + 1, 6, none⟩ : Addr) = some (.int .i64 0) := cell_of_cells hR1.st 6
    have c7 : World.cell? _ (⟨w.heap.size + 1, 7, none⟩ : Addr) = some (.int .i64 0) := cell_of_cells hR1.st 7
    have c8 : World.cell? _ (⟨w.heap.size + 1, 8, none⟩ : Addr) = some (.bool false) := cell_of_cells hR1.st 8
    have Hrow1 := Lib.hid hrow1; clear hrow1; have HR1 := Lib.hid hR1; clear hR1
    clear hfr1
    go_wp2_with fail
    refine (adjBetween_any 1 _ none 1 0 [⟨stR, some ⟨w.heap.size, 0, none⟩, 1⟩] [] _ (reads_one (by (repeat (first | exact heap_alloc_at _ _ (by simp; done) | refine box_alloc ?_ _)))) (Reads.nil _ _) (by simp) (by simp) (by rintro x hx; simp at hx; subst hx; exact ⟨HR1.out.rd.keeps (S := fun _ => False) (by (repeat (first | exact Keeps.refl _ _ | exact Keeps.alloc _ _ | exact Keeps.drew _ | exact Keeps.drewN _ _ | refine Keeps.trans_drew ?_ | refine Keeps.trans_drewN ?_ | refine Keeps.trans_alloc ?_))) (by simp), by simp [stR]⟩) (by simp [SVs]) (1, []) (.inr ⟨fun h => by have := h.1; simp at this, rfl⟩)).mono ?_
    rintro e w2 ⟨v2, rfl, hrow2, hfr2⟩
    have hR2 := HR1.out.keep (Keeps.none_trans (by (repeat (first | exact Keeps.refl _ _ | exact Keeps.alloc _ _ | exact Keeps.drew _ | exact Keeps.drewN _ _ | refine Keeps.trans_drew ?_ | refine Keeps.trans_drewN ?_ | refine Keeps.trans_alloc ?_))) hfr2.1)
    clear c0 c1 c2 c3 c4 c5 c6 c7 c8 hAl
    have hAl := lt_of_block hR2.st
    have c0 : World.cell? _ (⟨w.heap.size + 1, 0, none⟩ : Addr) = some (.int .i64 1) := cell_of_cells hR2.st 0
    have c1 : World.cell? _ (⟨w.heap.size + 1, 1, none⟩ : Addr) = some (.int .i64 1) := cell_of_cells hR2.st 1
    have c2 : World.cell? _ (⟨w.heap.size + 1, 2, none⟩ : Addr) = some (.int .i64 2) := cell_of_cells hR2.st 2
    have c3 : World.cell? _ (⟨w.heap.size + 1, 3, none⟩ : Addr) = some (.int .i64 0) := cell_of_cells hR2.st 3
    have c4 : World.cell? _ (⟨w.heap.size + 1, 4, none⟩ : Addr) = some (.slice (some ⟨w.heap.size, 0, none⟩) 1 1) := cell_of_cells hR2.st 4
    have c5 : World.cell? _ (⟨w.heap.size + 1, 5, none⟩ : Addr) = some (.int .i64 5) := cell_of_cells hR2.st 5
    have c6 : World.cell? _ (⟨w.heap.size + 1, 6, none⟩ : Addr) = some (.int .i64 0) := cell_of_cells hR2.st 6
    have c7 : World.cell? _ (⟨w.heap.size + 1, 7, none⟩ : Addr) = some (.int .i64 0) := cell_of_cells hR2.st 7
    have c8 : World.cell? _ (⟨w.heap.size + 1, 8, none⟩ : Addr) = some (.bool false) := cell_of_cells hR2.st 8
    have e3 : IntKind.i64.wrap (-5 - (1 + z)) = -5 - (1 + z) := IntWalk.i64_in _ ⟨by omega, by omega⟩
    have Hrow2 := Lib.hid hrow2; clear hrow2; have HR2 := Lib.hid hR2; clear hR2
    clear hfr2
    go_wp2_with fail
    refine (adjOntoAll_any stR (.slice (some ⟨w.heap.size, 0, none⟩) 1 1) (some ⟨w2.heap.size, 0, none⟩) 1 [⟨0, 1, 1, -5 - (1 + z), 0, 0, 0, 0, 0⟩] _ (HR2.out.rd.keeps (S := fun _ => False) (by (repeat (first | exact Keeps.refl _ _ | exact Keeps.alloc _ _ | exact Keeps.drew _ | exact Keeps.drewN _ _ | refine Keeps.trans_drew ?_ | refine Keeps.trans_drewN ?_ | refine Keeps.trans_alloc ?_))) (by simp)) (reads_adj (by (repeat (first | exact heap_alloc_at _ _ (by simp; done) | refine box_alloc ?_ _)))) (by simp [stR]) (by simp)).mono ?_
    rintro e w3 hpost
    obtain ⟨rfl, hk3⟩ := onto_err hpost (onto_r1 z0) (by decide)
    clear hpost
    have hR3 := HR2.out.keep (Keeps.none_trans (by (repeat (first | exact Keeps.refl _ _ | exact Keeps.alloc _ _ | exact Keeps.drew _ | exact Keeps.drewN _ _ | refine Keeps.trans_drew ?_ | refine Keeps.trans_drewN ?_ | refine Keeps.trans_alloc ?_))) hk3)
    clear c0 c1 c2 c3 c4 c5 c6 c7 c8 hAl hk3
    have hAl := lt_of_block hR3.st
    have c0 : World.cell? _ (⟨w.heap.size + 1, 0, none⟩ : Addr) = some (.int .i64 1) := cell_of_cells hR3.st 0
    have c1 : World.cell? _ (⟨w.heap.size + 1, 1, none⟩ : Addr) = some (.int .i64 1) := cell_of_cells hR3.st 1
    have c2 : World.cell? _ (⟨w.heap.size + 1, 2, none⟩ : Addr) = some (.int .i64 2) := cell_of_cells hR3.st 2
    have c3 : World.cell? _ (⟨w.heap.size + 1, 3, none⟩ : Addr) = some (.int .i64 0) := cell_of_cells hR3.st 3
    have c4 : World.cell? _ (⟨w.heap.size + 1, 4, none⟩ : Addr) = some (.slice (some ⟨w.heap.size, 0, none⟩) 1 1) := cell_of_cells hR3.st 4
    have c5 : World.cell? _ (⟨w.heap.size + 1, 5, none⟩ : Addr) = some (.int .i64 5) := cell_of_cells hR3.st 5
    have c6 : World.cell? _ (⟨w.heap.size + 1, 6, none⟩ : Addr) = some (.int .i64 0) := cell_of_cells hR3.st 6
    have c7 : World.cell? _ (⟨w.heap.size + 1, 7, none⟩ : Addr) = some (.int .i64 0) := cell_of_cells hR3.st 7
    have c8 : World.cell? _ (⟨w.heap.size + 1, 8, none⟩ : Addr) = some (.bool false) := cell_of_cells hR3.st 8
    have HR3 := Lib.hid hR3; clear hR3
    go_wp2_with fail
    refine (adjOntoAll_any stR (.slice (some ⟨w.heap.size, 0, none⟩) 1 1) (some ⟨w3.heap.size + 1, 0, none⟩) 1 [⟨0, 1, 2, 0, 0, 0, 0, 0, 0⟩] _ (HR3.out.rd.keeps (S := fun _ => False) (by (repeat (first | exact Keeps.refl _ _ | exact Keeps.alloc _ _ | exact Keeps.drew _ | exact Keeps.drewN _ _ | refine Keeps.trans_drew ?_ | refine Keeps.trans_drewN ?_ | refine Keeps.trans_alloc ?_))) (by simp)) (reads_adj (by (repeat (first | exact heap_alloc_at _ _ (by simp; done) | refine box_alloc ?_ _)))) (by simp [stR]) (by simp)).mono ?_
    rintro e w4 hpost
    obtain ⟨rfl, hk4⟩ := onto_err hpost (n := 7) rfl (by decide)
    have hx4 : w4.heap[w3.heap.size]? = some (.cells (SV.cells ⟨zeroStm, none, 0⟩).toArray 44 (0, 0)) := by
      refine box_old ?_ hk4 (by simp)
      (repeat (first | exact heap_alloc_at _ _ (by simp; done) | refine box_alloc ?_ _))
    clear hpost
    have hR4 := HR3.out.keep (Keeps.none_trans (by (repeat (first | exact Keeps.refl _ _ | exact Keeps.alloc _ _ | exact Keeps.drew _ | exact Keeps.drewN _ _ | refine Keeps.trans_drew ?_ | refine Keeps.trans_drewN ?_ | refine Keeps.trans_alloc ?_))) hk4)
    clear c0 c1 c2 c3 c4 c5 c6 c7 c8 hAl hk4
    have hAl := lt_of_block hR4.st
    have c0 : World.cell? _ (⟨w.heap.size + 1, 0, none⟩ : Addr) = some (.int .i64 1) := cell_of_cells hR4.st 0
    have c1 : World.cell? _ (⟨w.heap.size + 1, 1, none⟩ : Addr) = some (.int .i64 1) := cell_of_cells hR4.st 1
    have c2 : World.cell? _ (⟨w.heap.size + 1, 2, none⟩ : Addr) = some (.int .i64 2) := cell_of_cells hR4.st 2
    have c3 : World.cell? _ (⟨w.heap.size + 1, 3, none⟩ : Addr) = some (.int .i64 0) := cell_of_cells hR4.st 3
    have c4 : World.cell? _ (⟨w.heap.size + 1, 4, none⟩ : Addr) = some (.slice (some ⟨w.heap.size, 0, none⟩) 1 1) := cell_of_cells hR4.st 4
    have c5 : World.cell? _ (⟨w.heap.size + 1, 5, none⟩ : Addr) = some (.int .i64 5) := cell_of_cells hR4.st 5
    have c6 : World.cell? _ (⟨w.heap.size + 1, 6, none⟩ : Addr) = some (.int .i64 0) := cell_of_cells hR4.st 6
    have c7 : World.cell? _ (⟨w.heap.size + 1, 7, none⟩ : Addr) = some (.int .i64 0) := cell_of_cells hR4.st 7
    have c8 : World.cell? _ (⟨w.heap.size + 1, 8, none⟩ : Addr) = some (.bool false) := cell_of_cells hR4.st 8
    have HR4 := Lib.hid hR4; clear hR4
    have Hx4 := Lib.hid hx4; clear hx4
    go_wp2_with fail
    refine (adjOntoAll_any stR (.slice (some ⟨w.heap.size, 0, none⟩) 1 1) (some ⟨w4.heap.size + 1, 0, none⟩) 1 [⟨0, 1, 0, 0, 0, 0, 0, 0, -1⟩] _ (HR4.out.rd.keeps (S := fun _ => False) (by (repeat (first | exact Keeps.refl _ _ | exact Keeps.alloc _ _ | exact Keeps.drew _ | exact Keeps.drewN _ _ | refine Keeps.trans_drew ?_ | refine Keeps.trans_drewN ?_ | refine Keeps.trans_alloc ?_))) (by simp)) (reads_adj (by (repeat (first | exact heap_alloc_at _ _ (by simp; done) | refine box_alloc ?_ _)))) (by simp [stR]) (by simp)).mono ?_
    rintro e w5 hpost
    obtain ⟨rfl, hk5⟩ := onto_err hpost (n := 5) rfl (by decide)
    have hx5 : w5.heap[w3.heap.size]? = some (.cells (SV.cells ⟨zeroStm, none, 0⟩).toArray 44 (0, 0)) := box_old (box_alloc (box_alloc Hx4.out _) _) hk5 (by simp)
    clear hpost
    have hR5 := HR4.out.keep (Keeps.none_trans (by (repeat (first | exact Keeps.refl _ _ | exact Keeps.alloc _ _ | exact Keeps.drew _ | exact Keeps.drewN _ _ | refine Keeps.trans_drew ?_ | refine Keeps.trans_drewN ?_ | refine Keeps.trans_alloc ?_))) hk5)
    clear c0 c1 c2 c3 c4 c5 c6 c7 c8 hAl hk5
    have hAl := lt_of_block hR5.st
    have c0 : World.cell? _ (⟨w.heap.size + 1, 0, none⟩ : Addr) = some (.int .i64 1) := cell_of_cells hR5.st 0
    have c1 : World.cell? _ (⟨w.heap.size + 1, 1, none⟩ : Addr) = some (.int .i64 1) := cell_of_cells hR5.st 1
    have c2 : World.cell? _ (⟨w.heap.size + 1, 2, none⟩ : Addr) = some (.int .i64 2) := cell_of_cells hR5.st 2
    have c3 : World.cell? _ (⟨w.heap.size + 1, 3, none⟩ : Addr) = some (.int .i64 0) := cell_of_cells hR5.st 3
    have c4 : World.cell? _ (⟨w.heap.size + 1, 4, none⟩ : Addr) = some (.slice (some ⟨w.heap.size, 0, none⟩) 1 1) := cell_of_cells hR5.st 4
    have c5 : World.cell? _ (⟨w.heap.size + 1, 5, none⟩ : Addr) = some (.int .i64 5) := cell_of_cells hR5.st 5
    have c6 : World.cell? _ (⟨w.heap.size + 1, 6, none⟩ : Addr) = some (.int .i64 0) := cell_of_cells hR5.st 6
    have c7 : World.cell? _ (⟨w.heap.size + 1, 7, none⟩ : Addr) = some (.int .i64 0) := cell_of_cells hR5.st 7
    have c8 : World.cell? _ (⟨w.heap.size + 1, 8, none⟩ : Addr) = some (.bool false) := cell_of_cells hR5.st 8
    have HR5 := Lib.hid hR5; clear hR5
    have Hx5 := Lib.hid hx5; clear hx5
    go_wp2_with fail
    refine (adjOntoAll_any stR (.slice (some ⟨w.heap.size, 0, none⟩) 1 1) (some ⟨w5.heap.size + 1, 0, none⟩) 1 [⟨0, 2, 7, 1 + z, 0, 0, 0, 0, 0⟩] _ (HR5.out.rd.keeps (S := fun _ => False) (by (repeat (first | exact Keeps.refl _ _ | exact Keeps.alloc _ _ | exact Keeps.drew _ | exact Keeps.drewN _ _ | refine Keeps.trans_drew ?_ | refine Keeps.trans_drewN ?_ | refine Keeps.trans_alloc ?_))) (by simp)) (reads_adj (by (repeat (first | exact heap_alloc_at _ _ (by simp; done) | refine box_alloc ?_ _)))) (by simp [stR]) (by simp)).mono ?_
    rintro e w6 hpost
    obtain ⟨v6, rfl, hrow6, hk6⟩ := onto_goodR hpost rfl
    have hx6 : w6.heap[w3.heap.size]? = some (.cells (SV.cells ⟨zeroStm, none, 0⟩).toArray 44 (0, 0)) := box_old (box_alloc (box_alloc Hx5.out _) _) hk6 (by simp)
    clear hpost
    have hR6 := HR5.out.keep (Keeps.none_trans (by (repeat (first | exact Keeps.refl _ _ | exact Keeps.alloc _ _ | exact Keeps.drew _ | exact Keeps.drewN _ _ | refine Keeps.trans_drew ?_ | refine Keeps.trans_drewN ?_ | refine Keeps.trans_alloc ?_))) hk6)
    clear c0 c1 c2 c3 c4 c5 c6 c7 c8 hAl hk6
    have hAl := lt_of_block hR6.st
    have c0 : World.cell? _ (⟨w.heap.size + 1, 0, none⟩ : Addr) = some (.int .i64 1) := cell_of_cells hR6.st 0
    have c1 : World.cell? _ (⟨w.heap.size + 1, 1, none⟩ : Addr) = some (.int .i64 1) := cell_of_cells hR6.st 1
    have c2 : World.cell? _ (⟨w.heap.size + 1, 2, none⟩ : Addr) = some (.int .i64 2) := cell_of_cells hR6.st 2
    have c3 : World.cell? _ (⟨w.heap.size + 1, 3, none⟩ : Addr) = some (.int .i64 0) := cell_of_cells hR6.st 3
    have c4 : World.cell? _ (⟨w.heap.size + 1, 4, none⟩ : Addr) = some (.slice (some ⟨w.heap.size, 0, none⟩) 1 1) := cell_of_cells hR6.st 4
    have c5 : World.cell? _ (⟨w.heap.size + 1, 5, none⟩ : Addr) = some (.int .i64 5) := cell_of_cells hR6.st 5
    have c6 : World.cell? _ (⟨w.heap.size + 1, 6, none⟩ : Addr) = some (.int .i64 0) := cell_of_cells hR6.st 6
    have c7 : World.cell? _ (⟨w.heap.size + 1, 7, none⟩ : Addr) = some (.int .i64 0) := cell_of_cells hR6.st 7
    have c8 : World.cell? _ (⟨w.heap.size + 1, 8, none⟩ : Addr) = some (.bool false) := cell_of_cells hR6.st 8
    have HR6 := Lib.hid hR6; clear hR6
    obtain ⟨ad6, q6, rfl, _, _⟩ := ownsRow_shape hrow6
    obtain ⟨ad1, q1, rfl, _, _⟩ := ownsRow_shape Hrow1.out
    obtain ⟨ad2, q2, rfl, _, _⟩ := ownsRow_shape Hrow2.out
    have Hx6 := Lib.hid hx6; clear hx6; have Hrow6 := Lib.hid hrow6; clear hrow6
    go_wp2_with fail
    refine (awake21_any _).mono ?_
    rintro e w7 ⟨rfl, hk7⟩
    have hx7 : w7.heap[w3.heap.size]? = some (.cells (SV.cells ⟨zeroStm, none, 0⟩).toArray 44 (0, 0)) := box_old (box_alloc Hx6.out _) hk7 (by simp)
    have hy7 : w7.heap[w6.heap.size]? = some (.cells #[.int .i64 1, .int .i64 1, .int .i64 2, .int .i64 0, .slice ad6 1 q6, .int .i64 5, .int .i64 0, .int .i64 0, .bool false] 44 (0, 0)) := box_old (heap_alloc_at _ _ rfl) hk7 (by simp)
    have hrow7 := (Hrow6.out.alloc (.cells #[.int .i64 1, .int .i64 1, .int .i64 2, .int .i64 0, .slice ad6 1 q6, .int .i64 5, .int .i64 0, .int .i64 0, .bool false] 44)).of_keeps hk7
    have hR7 := HR6.out.keep (Keeps.none_trans (by (repeat (first | exact Keeps.refl _ _ | exact Keeps.alloc _ _ | exact Keeps.drew _ | exact Keeps.drewN _ _ | refine Keeps.trans_drew ?_ | refine Keeps.trans_drewN ?_ | refine Keeps.trans_alloc ?_))) hk7)
    clear c0 c1 c2 c3 c4 c5 c6 c7 c8 hAl hk7
    have hAl := lt_of_block hR7.st
    have c0 : World.cell? _ (⟨w.heap.size + 1, 0, none⟩ : Addr) = some (.int .i64 1) := cell_of_cells hR7.st 0
    have c1 : World.cell? _ (⟨w.heap.size + 1, 1, none⟩ : Addr) = some (.int .i64 1) := cell_of_cells hR7.st 1
    have c2 : World.cell? _ (⟨w.heap.size + 1, 2, none⟩ : Addr) = some (.int .i64 2) := cell_of_cells hR7.st 2
    have c3 : World.cell? _ (⟨w.heap.size + 1, 3, none⟩ : Addr) = some (.int .i64 0) := cell_of_cells hR7.st 3
    have c4 : World.cell? _ (⟨w.heap.size + 1, 4, none⟩ : Addr) = some (.slice (some ⟨w.heap.size, 0, none⟩) 1 1) := cell_of_cells hR7.st 4
    have c5 : World.cell? _ (⟨w.heap.size + 1, 5, none⟩ : Addr) = some (.int .i64 5) := cell_of_cells hR7.st 5
    have c6 : World.cell? _ (⟨w.heap.size + 1, 6, none⟩ : Addr) = some (.int .i64 0) := cell_of_cells hR7.st 6
    have c7 : World.cell? _ (⟨w.heap.size + 1, 7, none⟩ : Addr) = some (.int .i64 0) := cell_of_cells hR7.st 7
    have c8 : World.cell? _ (⟨w.heap.size + 1, 8, none⟩ : Addr) = some (.bool false) := cell_of_cells hR7.st 8
    have HR7 := Lib.hid hR7; clear hR7
    have x0 : World.cell? _ (⟨w3.heap.size, 0, none⟩ : Addr) = some (.int .i64 0) := cell_of_cells hx7 0
    have x1 : World.cell? _ (⟨w3.heap.size, 1, none⟩ : Addr) = some (.int .i64 0) := cell_of_cells hx7 1
    have x2 : World.cell? _ (⟨w3.heap.size, 2, none⟩ : Addr) = some (.int .i64 0) := cell_of_cells hx7 2
    have x3 : World.cell? _ (⟨w3.heap.size, 3, none⟩ : Addr) = some (.int .i64 0) := cell_of_cells hx7 3
    have x4 : World.cell? _ (⟨w3.heap.size, 4, none⟩ : Addr) = some (.slice none 0 0) := cell_of_cells hx7 4
    have x5 : World.cell? _ (⟨w3.heap.size, 5, none⟩ : Addr) = some (.int .i64 0) := cell_of_cells hx7 5
    have x6 : World.cell? _ (⟨w3.heap.size, 6, none⟩ : Addr) = some (.int .i64 0) := cell_of_cells hx7 6
    have x7 : World.cell? _ (⟨w3.heap.size, 7, none⟩ : Addr) = some (.int .i64 0) := cell_of_cells hx7 7
    have x8 : World.cell? _ (⟨w3.heap.size, 8, none⟩ : Addr) = some (.bool false) := cell_of_cells hx7 8
    have Hx7 := Lib.hid hx7; clear hx7; have Hy7 := Lib.hid hy7; clear hy7; have Hrow7 := Lib.hid hrow7; clear hrow7
    go_wp2_with fail
    refine (sameStm_any zeroStm (.slice none 0 0) (.slice none 0 0) w7 (Reads.nil _ _) (Reads.nil _ _) (by simp [zeroStm])).mono ?_
    rintro e w8 ⟨rfl, hk8⟩
    have hy8 := box_old Hy7.out hk8 (by simp)
    have hrow8 := Hrow7.out.of_keeps hk8
    have hR8 := HR7.out.keep hk8
    clear c0 c1 c2 c3 c4 c5 c6 c7 c8 x0 x1 x2 x3 x4 x5 x6 x7 x8 hAl hk8
    have hAl := lt_of_block hR8.st
    have c0 : World.cell? _ (⟨w.heap.size + 1, 0, none⟩ : Addr) = some (.int .i64 1) := cell_of_cells hR8.st 0
    have c1 : World.cell? _ (⟨w.heap.size + 1, 1, none⟩ : Addr) = some (.int .i64 1) := cell_of_cells hR8.st 1
    have c2 : World.cell? _ (⟨w.heap.size + 1, 2, none⟩ : Addr) = some (.int .i64 2) := cell_of_cells hR8.st 2
    have c3 : World.cell? _ (⟨w.heap.size + 1, 3, none⟩ : Addr) = some (.int .i64 0) := cell_of_cells hR8.st 3
    have c4 : World.cell? _ (⟨w.heap.size + 1, 4, none⟩ : Addr) = some (.slice (some ⟨w.heap.size, 0, none⟩) 1 1) := cell_of_cells hR8.st 4
    have c5 : World.cell? _ (⟨w.heap.size + 1, 5, none⟩ : Addr) = some (.int .i64 5) := cell_of_cells hR8.st 5
    have c6 : World.cell? _ (⟨w.heap.size + 1, 6, none⟩ : Addr) = some (.int .i64 0) := cell_of_cells hR8.st 6
    have c7 : World.cell? _ (⟨w.heap.size + 1, 7, none⟩ : Addr) = some (.int .i64 0) := cell_of_cells hR8.st 7
    have c8 : World.cell? _ (⟨w.heap.size + 1, 8, none⟩ : Addr) = some (.bool false) := cell_of_cells hR8.st 8
    have y0 : World.cell? _ (⟨w6.heap.size, 0, none⟩ : Addr) = some (.int .i64 1) := cell_of_cells hy8 0
    have y1 : World.cell? _ (⟨w6.heap.size, 1, none⟩ : Addr) = some (.int .i64 1) := cell_of_cells hy8 1
    have y2 : World.cell? _ (⟨w6.heap.size, 2, none⟩ : Addr) = some (.int .i64 2) := cell_of_cells hy8 2
    have y3 : World.cell? _ (⟨w6.heap.size, 3, none⟩ : Addr) = some (.int .i64 0) := cell_of_cells hy8 3
    have y4 : World.cell? _ (⟨w6.heap.size, 4, none⟩ : Addr) = some (.slice ad6 1 q6) := cell_of_cells hy8 4
    have y5 : World.cell? _ (⟨w6.heap.size, 5, none⟩ : Addr) = some (.int .i64 5) := cell_of_cells hy8 5
    have y6 : World.cell? _ (⟨w6.heap.size, 6, none⟩ : Addr) = some (.int .i64 0) := cell_of_cells hy8 6
    have y7 : World.cell? _ (⟨w6.heap.size, 7, none⟩ : Addr) = some (.int .i64 0) := cell_of_cells hy8 7
    have y8 : World.cell? _ (⟨w6.heap.size, 8, none⟩ : Addr) = some (.bool false) := cell_of_cells hy8 8
    have HR8 := Lib.hid hR8; clear hR8; have Hy8 := Lib.hid hy8; clear hy8; have Hrow8 := Lib.hid hrow8; clear hrow8
    go_wp2_with fail
    refine (sameStm_any stR (.slice ad6 1 q6) (.slice (some ⟨w.heap.size, 0, none⟩) 1 1) w8 (Reads.of_owns Hrow8.out) HR8.out.rd (by simp [stR])).mono ?_
    rintro e w9 ⟨rfl, hk9⟩
    have HR9 := Lib.hid (HR8.out.keep hk9)
    clear hk9
    go_wp2_with fail
    go_ret
    exact ⟨rfl, HR9.out.kp.below (fun _ _ h => h) (Nat.le_refl _)⟩
end Go.Proofs.Ythokcmbgamanbaa
