/- The walks of the adjust layer: one adjust onto a whole statement; onto, whatever the adjust. -/
import Derived.Test.YthokcmbgamanbaaAdj5
namespace Go.Proofs.Ythokcmbgamanbaa
open Go.RowKit
theorem OS.keep {w w' : World} {S : Nat} {s : Stm} {v : Value} (h : OS w S s v) (hk : Keeps (fun _ => False) w w') : OS w' S s v :=
  ⟨by rw [hk.block S (lt_of_block h.blk) (by simp)]; exact h.blk, hk.row h.row (by simp)⟩
theorem OS.ne {w : World} {S : Nat} {s : Stm} {v : Value} (h : OS w S s v) : v.ownBlock ≠ some S := ownsRow_ne h.row h.blk (by decide)
/-- A store into a cell of the statement's own block. -/
theorem OS.store {w w' : World} {S : Nat} {s s' : Stm} {v : Value} (h : OS w S s v) (hk : Keeps (fun k => k = S) w w') (j : Nat) (u : Value) (hh : w'.heap[S]? = (w.setCell ⟨S, j, none⟩ u).heap[S]?)
    (hs : (#[.int .i64 s.cycle, .int .i64 s.fr, .int .i64 s.to, .int .i64 s.due, v, .int .i64 s.total, .int .i64 s.credit, .int .i64 s.min, .bool s.grace] : Array Value).setIfInBounds j u = #[.int .i64 s'.cycle, .int .i64 s'.fr, .int .i64 s'.to, .int .i64 s'.due, v, .int .i64 s'.total, .int .i64 s'.credit, .int .i64 s'.min, .bool s'.grace])
    (hl : s'.lines = s.lines) : OS w' S s' v := by
  refine ⟨?_, ?_⟩
  · rw [hh, heap_setCell_same _ _ j _ _ u h.blk, hs]
  · rw [hl]
    exact hk.row h.row fun k hk' e => h.ne (by rw [← e]; exact hk')
theorem adjMore_os (j S : Nat) (s s' : Stm) (v : Value) (x d : Int) (w : World) (h : OS w S s v) (hc : w.cell? ⟨S, j, none⟩ = some (.int .i64 x)) (hn : moreB x d = true)
    (hs : (#[.int .i64 s.cycle, .int .i64 s.fr, .int .i64 s.to, .int .i64 s.due, v, .int .i64 s.total, .int .i64 s.credit, .int .i64 s.min, .bool s.grace] : Array Value).setIfInBounds j (.int .i64 (x + d)) = #[.int .i64 s'.cycle, .int .i64 s'.fr, .int .i64 s'.to, .int .i64 s'.due, v, .int .i64 s'.total, .int .i64 s'.credit, .int .i64 s'.min, .bool s'.grace])
    (hl : s'.lines = s.lines) :
    Calls Try.prog 66 #[.pointer (some ⟨S, j, none⟩), .int .i64 d] w fun e w' => e = .returned (.bool true) ∧ Keeps (fun k => k = S) w w' ∧ OS w' S s' v :=
  (adjMore_ok S j x d w hc (free_of_cells h.blk j) hn).mono fun e w' ⟨h1, h2, h3⟩ => ⟨h1, h2, h.store h2 j _ h3 hs hl⟩
theorem adjMore_tot (S : Nat) (s : Stm) (v : Value) (d : Int) (w : World) (h : OS w S s v) (hn : moreB s.total d = true) :
    Calls Try.prog 66 #[.pointer (some ⟨S, 5, none⟩), .int .i64 d] w fun e w' => e = .returned (.bool true) ∧ Keeps (fun k => k = S) w w' ∧ OS w' S { s with total := s.total + d } v :=
  adjMore_os 5 S s _ v s.total d w h (cell_of_cells h.blk 5) hn rfl rfl
theorem adjMore_cre (S : Nat) (s : Stm) (v : Value) (d : Int) (w : World) (h : OS w S s v) (hn : moreB s.credit d = true) :
    Calls Try.prog 66 #[.pointer (some ⟨S, 6, none⟩), .int .i64 d] w fun e w' => e = .returned (.bool true) ∧ Keeps (fun k => k = S) w w' ∧ OS w' S { s with credit := s.credit + d } v :=
  adjMore_os 6 S s _ v s.credit d w h (cell_of_cells h.blk 6) hn rfl rfl
theorem adjMore_min (S : Nat) (s : Stm) (v : Value) (d : Int) (w : World) (h : OS w S s v) (hn : moreB s.min d = true) :
    Calls Try.prog 66 #[.pointer (some ⟨S, 7, none⟩), .int .i64 d] w fun e w' => e = .returned (.bool true) ∧ Keeps (fun k => k = S) w w' ∧ OS w' S { s with min := s.min + d } v :=
  adjMore_os 7 S s _ v s.min d w h (cell_of_cells h.blk 7) hn rfl rfl
/-- Whether grace may turn so. -/
def graceB (g : Bool) (d : Int) : Bool := decide (d = 0) || (decide (d = 1) && !g) || (decide (d = -1) && g)
/-- How grace stands, turned so. -/
def turnB (g : Bool) (d : Int) : Bool := if d = 0 then g else !g
set_option maxRecDepth 100000 in
set_option maxHeartbeats 3200000 in
theorem adjOnto_g (S : Nat) (s : Stm) (v : Value) (a : Adj) (w : World) (h : OS w S s v) (hl : s.lines.length ≤ 1000000) (ht : a.tranche = 0) (hg : graceB s.grace a.grace = false) :
    Calls Try.prog 54 #[(.pointer (some ⟨S, 0, none⟩)), a.agg] w fun e w' => e = .returned (.int .i64 5) ∧ Keeps (fun _ => False) w w' := by
  have b4 := cell_of_cells h.blk 4
  have b8 := cell_of_cells h.blk 8
  have hbl := lt_of_block h.blk
  have hsh := ownsRow_shape h.row
  obtain ⟨ad, cap, rfl, _, _⟩ := hsh
  obtain ⟨sq, cy, tr, ba, it, to, cr, mi, gr⟩ := a
  simp only [Adj.agg] at ht hg ⊢
  obtain ⟨n, hn⟩ : ∃ n, s.lines.length = n := ⟨_, rfl⟩
  rw [hn] at b4 hl
  obtain ⟨sg, hsg⟩ : ∃ g, s.grace = g := ⟨_, rfl⟩
  rw [hsg] at b8 hg
  have b4' : w.cell? ⟨S, 4, none⟩ = some (.slice ad n cap) := b4
  have b8' : w.cell? ⟨S, 8, none⟩ = some (.bool sg) := b8
  clear b4 b8
  subst ht
  have t0 : decide ((n : Int) < 0) = false := by simp
  have hc : gr < -1 ∨ (¬ gr < -1 ∧ 1 < gr) ∨ (gr = 1 ∧ sg = true) ∨ (gr = -1 ∧ sg = false) := by
    cases sg <;> simp [graceB] at hg ⊢ <;> omega
  rcases hc with h1 | ⟨h1, h2⟩ | ⟨rfl, rfl⟩ | ⟨rfl, rfl⟩
  · have H := Lib.hid h; clear h; have Hn := Lib.hid hn; clear hn; have Hsg := Lib.hid hsg; clear hsg; have Hg := Lib.hid hg; clear hg
    go_enter Try.func54, Try.ntmps54
    go_wp2
    go_quiet (fail)
    go_wp2
    go_ret
    exact ⟨rfl, by (repeat (first | exact Keeps.refl _ _ | exact Keeps.alloc _ _ | exact Keeps.drew _ | exact Keeps.drewN _ _ | refine Keeps.trans_drew ?_ | refine Keeps.trans_drewN ?_ | refine Keeps.trans_alloc ?_))⟩
  · have H := Lib.hid h; clear h; have Hn := Lib.hid hn; clear hn; have Hsg := Lib.hid hsg; clear hsg; have Hg := Lib.hid hg; clear hg
    go_enter Try.func54, Try.ntmps54
    go_wp2
    go_quiet (fail)
    go_wp2
    go_ret
    exact ⟨rfl, by (repeat (first | exact Keeps.refl _ _ | exact Keeps.alloc _ _ | exact Keeps.drew _ | exact Keeps.drewN _ _ | refine Keeps.trans_drew ?_ | refine Keeps.trans_drewN ?_ | refine Keeps.trans_alloc ?_))⟩
  · have H := Lib.hid h; clear h; have Hn := Lib.hid hn; clear hn; have Hsg := Lib.hid hsg; clear hsg; have Hg := Lib.hid hg; clear hg
    go_enter Try.func54, Try.ntmps54
    go_wp2
    go_quiet (fail)
    go_wp2
    go_ret
    exact ⟨rfl, by (repeat (first | exact Keeps.refl _ _ | exact Keeps.alloc _ _ | exact Keeps.drew _ | exact Keeps.drewN _ _ | refine Keeps.trans_drew ?_ | refine Keeps.trans_drewN ?_ | refine Keeps.trans_alloc ?_))⟩
  · have H := Lib.hid h; clear h; have Hn := Lib.hid hn; clear hn; have Hsg := Lib.hid hsg; clear hsg; have Hg := Lib.hid hg; clear hg
    go_enter Try.func54, Try.ntmps54
    go_wp2
    go_quiet (fail)
    go_wp2
    go_ret
    exact ⟨rfl, by (repeat (first | exact Keeps.refl _ _ | exact Keeps.alloc _ _ | exact Keeps.drew _ | exact Keeps.drewN _ _ | refine Keeps.trans_drew ?_ | refine Keeps.trans_drewN ?_ | refine Keeps.trans_alloc ?_))⟩
set_option maxRecDepth 100000 in
set_option maxHeartbeats 3200000 in
theorem adjOnto_w1 (S : Nat) (s : Stm) (v : Value) (a : Adj) (w : World) (h : OS w S s v) (hl : s.lines.length ≤ 1000000) (ht : a.tranche = 0) (hg : graceB s.grace a.grace = true) (hn1 : moreB s.total a.total = false) :
    Calls Try.prog 54 #[(.pointer (some ⟨S, 0, none⟩)), a.agg] w fun e w' => e = .returned (.int .i64 5) ∧ Keeps (fun k => k = S) w w' := by
  have b4 := cell_of_cells h.blk 4
  have b8 := cell_of_cells h.blk 8
  have hbl := lt_of_block h.blk
  have hsh := ownsRow_shape h.row
  obtain ⟨ad, cap, rfl, _, _⟩ := hsh
  obtain ⟨sq, cy, tr, ba, it, to, cr, mi, gr⟩ := a
  simp only [Adj.agg] at ht hg ⊢
  obtain ⟨n, hn⟩ : ∃ n, s.lines.length = n := ⟨_, rfl⟩
  rw [hn] at b4 hl
  obtain ⟨sg, hsg⟩ : ∃ g, s.grace = g := ⟨_, rfl⟩
  rw [hsg] at b8 hg
  have b4' : w.cell? ⟨S, 4, none⟩ = some (.slice ad n cap) := b4
  have b8' : w.cell? ⟨S, 8, none⟩ = some (.bool sg) := b8
  clear b4 b8
  subst ht
  have t0 : decide ((n : Int) < 0) = false := by simp
  simp only at hn1
  have Hn1 := Lib.hid hn1; clear hn1
  have hc : gr = 0 ∨ (gr = 1 ∧ sg = false) ∨ (gr = -1 ∧ sg = true) := by
    cases sg <;> simp [graceB] at hg ⊢ <;> omega
  have hsz : S < w.heap.size := hbl
  rcases hc with rfl | ⟨rfl, rfl⟩ | ⟨rfl, rfl⟩
  ·
    have H := Lib.hid h; clear h; have Hn := Lib.hid hn; clear hn; have Hsg := Lib.hid hsg; clear hsg; have Hg := Lib.hid hg; clear hg
    go_enter Try.func54, Try.ntmps54
    go_wp2
    go_quiet (fail)
    go_wp2
    refine wp_region_mixw (fun w' => w'.cell? ⟨w.heap.size, 5, none⟩ = some (.int .i64 to) ∧ w'.cell? ⟨w.heap.size, 6, none⟩ = some (.int .i64 cr) ∧ w'.cell? ⟨w.heap.size, 7, none⟩ = some (.int .i64 mi)) (.take 0 (.take 1 (.take 2 (.take 3 (.take 4 (.move 5 (.take 6 (.take 7 (.take 8 (.take 9 (.take 10 (.take 11 (.take 12 (.move 13 (.take 14 (.take 15 (.take 16 (.take 17 (.take 18 (.take 19 (.take 20 (.take 21 (.move 22 (.take 23 (.take 24 .done))))))))))))))))))))))))) (by kernel_rfl) (by kernel_rfl) ?_ ?_
    · go_simp
    intro w1 hs1 hk1
    have HC0 := Lib.hid hs1; clear hs1
    have HK0 : Hid (Keeps (fun k => k = S) w w1) := Lib.hid ((by (repeat (first | exact Keeps.refl _ _ | exact Keeps.alloc _ _ | exact Keeps.drew _ | exact Keeps.drewN _ _ | refine Keeps.trans_drew ?_ | refine Keeps.trans_drewN ?_ | refine Keeps.trans_alloc ?_)) : Keeps (fun k => k = S) w _).trans (hk1.mono (by simp)))
    have HOS := Lib.hid ((H.out.keep (by (repeat (first | exact Keeps.refl _ _ | exact Keeps.alloc _ _ | exact Keeps.drew _ | exact Keeps.drewN _ _ | refine Keeps.trans_drew ?_ | refine Keeps.trans_drewN ?_ | refine Keeps.trans_alloc ?_)))).keep hk1)
    clear hk1
    repeat (first
      | (refine mix_skip rfl (by rfl) ?_; try simp only [Act.put, List.setIfInBounds_toArray, List.set_cons_zero, List.set_cons_succ])
      | (refine mix_skipm rfl (by rfl) ?_; try simp only [Act.put, List.setIfInBounds_toArray, List.set_cons_zero, List.set_cons_succ])
      | (refine mix_take (v := ?_) rfl (by rfl) ?_ ?_; rotate_left; (· intro w' hSw; (try dsimp only at hSw); go_simp; (try with_reducible rfl)); rotate_right; try simp only [Act.put, List.setIfInBounds_toArray, List.set_cons_zero, List.set_cons_succ]))
    refine mix_move rfl (fun K hK => ?_)
    go_simp
    go_at_call 66
    ((with_reducible refine (adjMore_no S 5 _ to _ (cell_of_cells HOS.out.blk 5) Hn1.out).mono ?_); rintro e w9 ⟨rfl, hk3⟩; dsimp only)
    have h0' := HC0.out
    have HKZ := Lib.hid (HK0.out.trans (hk3.mono (by simp)))
    refine hK.out _ _ (by exact ⟨(hk3.cell (cell_lt h0'.1) (by simp)).trans h0'.1, (hk3.cell (cell_lt h0'.2.1) (by simp)).trans h0'.2.1, (hk3.cell (cell_lt h0'.2.2) (by simp)).trans h0'.2.2⟩) ?_
    clear hK K
    try simp only [Act.put, List.setIfInBounds_toArray, List.set_cons_zero, List.set_cons_succ]
    clear hk3 h0'
    repeat (first
      | (refine mix_skip rfl (by rfl) ?_; try simp only [Act.put, List.setIfInBounds_toArray, List.set_cons_zero, List.set_cons_succ])
      | (refine mix_skipm rfl (by rfl) ?_; try simp only [Act.put, List.setIfInBounds_toArray, List.set_cons_zero, List.set_cons_succ])
      | (refine mix_take (v := ?_) rfl (by rfl) ?_ ?_; rotate_left; (· intro w' hSw; (try dsimp only at hSw); go_simp; (try with_reducible rfl)); rotate_right; try simp only [Act.put, List.setIfInBounds_toArray, List.set_cons_zero, List.set_cons_succ]))
    refine mix_done ?_
    go_wp2
    go_ret
    exact ⟨rfl, HKZ.out⟩
  ·
    have H := Lib.hid h; clear h; have Hn := Lib.hid hn; clear hn; have Hsg := Lib.hid hsg; clear hsg; have Hg := Lib.hid hg; clear hg
    go_enter Try.func54, Try.ntmps54
    go_wp2
    go_quiet (fail)
    go_wp2
    refine wp_region_mixw (fun w' => w'.cell? ⟨w.heap.size, 5, none⟩ = some (.int .i64 to) ∧ w'.cell? ⟨w.heap.size, 6, none⟩ = some (.int .i64 cr) ∧ w'.cell? ⟨w.heap.size, 7, none⟩ = some (.int .i64 mi)) (.take 0 (.take 1 (.take 2 (.take 3 (.take 4 (.move 5 (.take 6 (.take 7 (.take 8 (.take 9 (.take 10 (.take 11 (.take 12 (.move 13 (.take 14 (.take 15 (.take 16 (.take 17 (.take 18 (.take 19 (.take 20 (.take 21 (.move 22 (.take 23 (.take 24 .done))))))))))))))))))))))))) (by kernel_rfl) (by kernel_rfl) ?_ ?_
    · go_simp
    intro w1 hs1 hk1
    have HC0 := Lib.hid hs1; clear hs1
    have HK0 : Hid (Keeps (fun k => k = S) w w1) := Lib.hid ((by (repeat (first | exact Keeps.refl _ _ | exact Keeps.alloc _ _ | exact Keeps.drew _ | exact Keeps.drewN _ _ | refine Keeps.trans_drew ?_ | refine Keeps.trans_drewN ?_ | refine Keeps.trans_alloc ?_)) : Keeps (fun k => k = S) w _).trans (hk1.mono (by simp)))
    have HOS := Lib.hid ((H.out.keep (by (repeat (first | exact Keeps.refl _ _ | exact Keeps.alloc _ _ | exact Keeps.drew _ | exact Keeps.drewN _ _ | refine Keeps.trans_drew ?_ | refine Keeps.trans_drewN ?_ | refine Keeps.trans_alloc ?_)))).keep hk1)
    clear hk1
    repeat (first
      | (refine mix_skip rfl (by rfl) ?_; try simp only [Act.put, List.setIfInBounds_toArray, List.set_cons_zero, List.set_cons_succ])
      | (refine mix_skipm rfl (by rfl) ?_; try simp only [Act.put, List.setIfInBounds_toArray, List.set_cons_zero, List.set_cons_succ])
      | (refine mix_take (v := ?_) rfl (by rfl) ?_ ?_; rotate_left; (· intro w' hSw; (try dsimp only at hSw); go_simp; (try with_reducible rfl)); rotate_right; try simp only [Act.put, List.setIfInBounds_toArray, List.set_cons_zero, List.set_cons_succ]))
    refine mix_move rfl (fun K hK => ?_)
    go_simp
    go_at_call 66
    ((with_reducible refine (adjMore_no S 5 _ to _ (cell_of_cells HOS.out.blk 5) Hn1.out).mono ?_); rintro e w9 ⟨rfl, hk3⟩; dsimp only)
    have h0' := HC0.out
    have HKZ := Lib.hid (HK0.out.trans (hk3.mono (by simp)))
    refine hK.out _ _ (by exact ⟨(hk3.cell (cell_lt h0'.1) (by simp)).trans h0'.1, (hk3.cell (cell_lt h0'.2.1) (by simp)).trans h0'.2.1, (hk3.cell (cell_lt h0'.2.2) (by simp)).trans h0'.2.2⟩) ?_
    clear hK K
    try simp only [Act.put, List.setIfInBounds_toArray, List.set_cons_zero, List.set_cons_succ]
    clear hk3 h0'
    repeat (first
      | (refine mix_skip rfl (by rfl) ?_; try simp only [Act.put, List.setIfInBounds_toArray, List.set_cons_zero, List.set_cons_succ])
      | (refine mix_skipm rfl (by rfl) ?_; try simp only [Act.put, List.setIfInBounds_toArray, List.set_cons_zero, List.set_cons_succ])
      | (refine mix_take (v := ?_) rfl (by rfl) ?_ ?_; rotate_left; (· intro w' hSw; (try dsimp only at hSw); go_simp; (try with_reducible rfl)); rotate_right; try simp only [Act.put, List.setIfInBounds_toArray, List.set_cons_zero, List.set_cons_succ]))
    refine mix_done ?_
    go_wp2
    go_ret
    exact ⟨rfl, HKZ.out⟩
  ·
    have H := Lib.hid h; clear h; have Hn := Lib.hid hn; clear hn; have Hsg := Lib.hid hsg; clear hsg; have Hg := Lib.hid hg; clear hg
    go_enter Try.func54, Try.ntmps54
    go_wp2
    go_quiet (fail)
    go_wp2
    refine wp_region_mixw (fun w' => w'.cell? ⟨w.heap.size, 5, none⟩ = some (.int .i64 to) ∧ w'.cell? ⟨w.heap.size, 6, none⟩ = some (.int .i64 cr) ∧ w'.cell? ⟨w.heap.size, 7, none⟩ = some (.int .i64 mi)) (.take 0 (.take 1 (.take 2 (.take 3 (.take 4 (.move 5 (.take 6 (.take 7 (.take 8 (.take 9 (.take 10 (.take 11 (.take 12 (.move 13 (.take 14 (.take 15 (.take 16 (.take 17 (.take 18 (.take 19 (.take 20 (.take 21 (.move 22 (.take 23 (.take 24 .done))))))))))))))))))))))))) (by kernel_rfl) (by kernel_rfl) ?_ ?_
    · go_simp
    intro w1 hs1 hk1
    have HC0 := Lib.hid hs1; clear hs1
    have HK0 : Hid (Keeps (fun k => k = S) w w1) := Lib.hid ((by (repeat (first | exact Keeps.refl _ _ | exact Keeps.alloc _ _ | exact Keeps.drew _ | exact Keeps.drewN _ _ | refine Keeps.trans_drew ?_ | refine Keeps.trans_drewN ?_ | refine Keeps.trans_alloc ?_)) : Keeps (fun k => k = S) w _).trans (hk1.mono (by simp)))
    have HOS := Lib.hid ((H.out.keep (by (repeat (first | exact Keeps.refl _ _ | exact Keeps.alloc _ _ | exact Keeps.drew _ | exact Keeps.drewN _ _ | refine Keeps.trans_drew ?_ | refine Keeps.trans_drewN ?_ | refine Keeps.trans_alloc ?_)))).keep hk1)
    clear hk1
    repeat (first
      | (refine mix_skip rfl (by rfl) ?_; try simp only [Act.put, List.setIfInBounds_toArray, List.set_cons_zero, List.set_cons_succ])
      | (refine mix_skipm rfl (by rfl) ?_; try simp only [Act.put, List.setIfInBounds_toArray, List.set_cons_zero, List.set_cons_succ])
      | (refine mix_take (v := ?_) rfl (by rfl) ?_ ?_; rotate_left; (· intro w' hSw; (try dsimp only at hSw); go_simp; (try with_reducible rfl)); rotate_right; try simp only [Act.put, List.setIfInBounds_toArray, List.set_cons_zero, List.set_cons_succ]))
    refine mix_move rfl (fun K hK => ?_)
    go_simp
    go_at_call 66
    ((with_reducible refine (adjMore_no S 5 _ to _ (cell_of_cells HOS.out.blk 5) Hn1.out).mono ?_); rintro e w9 ⟨rfl, hk3⟩; dsimp only)
    have h0' := HC0.out
    have HKZ := Lib.hid (HK0.out.trans (hk3.mono (by simp)))
    refine hK.out _ _ (by exact ⟨(hk3.cell (cell_lt h0'.1) (by simp)).trans h0'.1, (hk3.cell (cell_lt h0'.2.1) (by simp)).trans h0'.2.1, (hk3.cell (cell_lt h0'.2.2) (by simp)).trans h0'.2.2⟩) ?_
    clear hK K
    try simp only [Act.put, List.setIfInBounds_toArray, List.set_cons_zero, List.set_cons_succ]
    clear hk3 h0'
    repeat (first
      | (refine mix_skip rfl (by rfl) ?_; try simp only [Act.put, List.setIfInBounds_toArray, List.set_cons_zero, List.set_cons_succ])
      | (refine mix_skipm rfl (by rfl) ?_; try simp only [Act.put, List.setIfInBounds_toArray, List.set_cons_zero, List.set_cons_succ])
      | (refine mix_take (v := ?_) rfl (by rfl) ?_ ?_; rotate_left; (· intro w' hSw; (try dsimp only at hSw); go_simp; (try with_reducible rfl)); rotate_right; try simp only [Act.put, List.setIfInBounds_toArray, List.set_cons_zero, List.set_cons_succ]))
    refine mix_done ?_
    go_wp2
    go_ret
    exact ⟨rfl, HKZ.out⟩
set_option maxRecDepth 100000 in
set_option maxHeartbeats 3200000 in
theorem adjOnto_w2 (S : Nat) (s : Stm) (v : Value) (a : Adj) (w : World) (h : OS w S s v) (hl : s.lines.length ≤ 1000000) (ht : a.tranche = 0) (hg : graceB s.grace a.grace = true) (hn1 : moreB s.total a.total = true) (hn2 : moreB s.credit a.credit = false) :
    Calls Try.prog 54 #[(.pointer (some ⟨S, 0, none⟩)), a.agg] w fun e w' => e = .returned (.int .i64 5) ∧ Keeps (fun k => k = S) w w' := by
  have b4 := cell_of_cells h.blk 4
  have b8 := cell_of_cells h.blk 8
  have hbl := lt_of_block h.blk
  have hsh := ownsRow_shape h.row
  obtain ⟨ad, cap, rfl, _, _⟩ := hsh
  obtain ⟨sq, cy, tr, ba, it, to, cr, mi, gr⟩ := a
  simp only [Adj.agg] at ht hg ⊢
  obtain ⟨n, hn⟩ : ∃ n, s.lines.length = n := ⟨_, rfl⟩
  rw [hn] at b4 hl
  obtain ⟨sg, hsg⟩ : ∃ g, s.grace = g := ⟨_, rfl⟩
  rw [hsg] at b8 hg
  have b4' : w.cell? ⟨S, 4, none⟩ = some (.slice ad n cap) := b4
  have b8' : w.cell? ⟨S, 8, none⟩ = some (.bool sg) := b8
  clear b4 b8
  subst ht
  have t0 : decide ((n : Int) < 0) = false := by simp
  simp only at hn1 hn2
  have Hn1 := Lib.hid hn1; clear hn1; have Hn2 := Lib.hid hn2; clear hn2
  have hc : gr = 0 ∨ (gr = 1 ∧ sg = false) ∨ (gr = -1 ∧ sg = true) := by
    cases sg <;> simp [graceB] at hg ⊢ <;> omega
  have hsz : S < w.heap.size := hbl
  rcases hc with rfl | ⟨rfl, rfl⟩ | ⟨rfl, rfl⟩
  ·
    have H := Lib.hid h; clear h; have Hn := Lib.hid hn; clear hn; have Hsg := Lib.hid hsg; clear hsg; have Hg := Lib.hid hg; clear hg
    go_enter Try.func54, Try.ntmps54
    go_wp2
    go_quiet (fail)
    go_wp2
    refine wp_region_mixw (fun w' => w'.cell? ⟨w.heap.size, 5, none⟩ = some (.int .i64 to) ∧ w'.cell? ⟨w.heap.size, 6, none⟩ = some (.int .i64 cr) ∧ w'.cell? ⟨w.heap.size, 7, none⟩ = some (.int .i64 mi)) (.take 0 (.take 1 (.take 2 (.take 3 (.take 4 (.move 5 (.take 6 (.take 7 (.take 8 (.take 9 (.take 10 (.take 11 (.take 12 (.move 13 (.take 14 (.take 15 (.take 16 (.take 17 (.take 18 (.take 19 (.take 20 (.take 21 (.move 22 (.take 23 (.take 24 .done))))))))))))))))))))))))) (by kernel_rfl) (by kernel_rfl) ?_ ?_
    · go_simp
    intro w1 hs1 hk1
    have HC0 := Lib.hid hs1; clear hs1
    have HK0 : Hid (Keeps (fun k => k = S) w w1) := Lib.hid ((by (repeat (first | exact Keeps.refl _ _ | exact Keeps.alloc _ _ | exact Keeps.drew _ | exact Keeps.drewN _ _ | refine Keeps.trans_drew ?_ | refine Keeps.trans_drewN ?_ | refine Keeps.trans_alloc ?_)) : Keeps (fun k => k = S) w _).trans (hk1.mono (by simp)))
    have HOS := Lib.hid ((H.out.keep (by (repeat (first | exact Keeps.refl _ _ | exact Keeps.alloc _ _ | exact Keeps.drew _ | exact Keeps.drewN _ _ | refine Keeps.trans_drew ?_ | refine Keeps.trans_drewN ?_ | refine Keeps.trans_alloc ?_)))).keep hk1)
    clear hk1
    repeat (first
      | (refine mix_skip rfl (by rfl) ?_; try simp only [Act.put, List.setIfInBounds_toArray, List.set_cons_zero, List.set_cons_succ])
      | (refine mix_skipm rfl (by rfl) ?_; try simp only [Act.put, List.setIfInBounds_toArray, List.set_cons_zero, List.set_cons_succ])
      | (refine mix_take (v := ?_) rfl (by rfl) ?_ ?_; rotate_left; (· intro w' hSw; (try dsimp only at hSw); go_simp; (try with_reducible rfl)); rotate_right; try simp only [Act.put, List.setIfInBounds_toArray, List.set_cons_zero, List.set_cons_succ]))
    refine mix_move rfl (fun K hK => ?_)
    go_simp
    go_at_call 66
    ((with_reducible refine (adjMore_tot S _ _ to _ HOS.out Hn1.out).mono ?_); rintro e w3 ⟨rfl, hk3, hos3⟩; dsimp only)
    have HHOS := Lib.hid hos3; clear hos3
    have h0' := HC0.out
    have HHC0 := Lib.hid (And.intro ((hk3.cell (cell_lt h0'.1) (by simp; omega)).trans h0'.1) (And.intro ((hk3.cell (cell_lt h0'.2.1) (by simp; omega)).trans h0'.2.1) ((hk3.cell (cell_lt h0'.2.2) (by simp; omega)).trans h0'.2.2)))
    clear h0'
    have HHK0 := Lib.hid (HK0.out.trans (hk3.mono (by simp +contextual)))
    refine hK.out _ _ (by exact HHC0.out) ?_
    clear hK K
    try simp only [Act.put, List.setIfInBounds_toArray, List.set_cons_zero, List.set_cons_succ]
    clear hk3
    repeat (first
      | (refine mix_skip rfl (by rfl) ?_; try simp only [Act.put, List.setIfInBounds_toArray, List.set_cons_zero, List.set_cons_succ])
      | (refine mix_skipm rfl (by rfl) ?_; try simp only [Act.put, List.setIfInBounds_toArray, List.set_cons_zero, List.set_cons_succ])
      | (refine mix_take (v := ?_) rfl (by rfl) ?_ ?_; rotate_left; (· intro w' hSw; (try dsimp only at hSw); go_simp; (try with_reducible rfl)); rotate_right; try simp only [Act.put, List.setIfInBounds_toArray, List.set_cons_zero, List.set_cons_succ]))
    refine mix_move rfl (fun K hK => ?_)
    go_simp
    go_at_call 66
    ((with_reducible refine (adjMore_no S 6 _ cr _ (cell_of_cells HHOS.out.blk 6) Hn2.out).mono ?_); rintro e w9 ⟨rfl, hk3⟩; dsimp only)
    have h0' := HHC0.out
    have HKZ := Lib.hid (HHK0.out.trans (hk3.mono (by simp)))
    refine hK.out _ _ (by exact ⟨(hk3.cell (cell_lt h0'.1) (by simp)).trans h0'.1, (hk3.cell (cell_lt h0'.2.1) (by simp)).trans h0'.2.1, (hk3.cell (cell_lt h0'.2.2) (by simp)).trans h0'.2.2⟩) ?_
    clear hK K
    try simp only [Act.put, List.setIfInBounds_toArray, List.set_cons_zero, List.set_cons_succ]
    clear hk3 h0'
    repeat (first
      | (refine mix_skip rfl (by rfl) ?_; try simp only [Act.put, List.setIfInBounds_toArray, List.set_cons_zero, List.set_cons_succ])
      | (refine mix_skipm rfl (by rfl) ?_; try simp only [Act.put, List.setIfInBounds_toArray, List.set_cons_zero, List.set_cons_succ])
      | (refine mix_take (v := ?_) rfl (by rfl) ?_ ?_; rotate_left; (· intro w' hSw; (try dsimp only at hSw); go_simp; (try with_reducible rfl)); rotate_right; try simp only [Act.put, List.setIfInBounds_toArray, List.set_cons_zero, List.set_cons_succ]))
    refine mix_done ?_
    go_wp2
    go_ret
    exact ⟨rfl, HKZ.out⟩
  ·
    have H := Lib.hid h; clear h; have Hn := Lib.hid hn; clear hn; have Hsg := Lib.hid hsg; clear hsg; have Hg := Lib.hid hg; clear hg
    go_enter Try.func54, Try.ntmps54
    go_wp2
    go_quiet (fail)
    go_wp2
    refine wp_region_mixw (fun w' => w'.cell? ⟨w.heap.size, 5, none⟩ = some (.int .i64 to) ∧ w'.cell? ⟨w.heap.size, 6, none⟩ = some (.int .i64 cr) ∧ w'.cell? ⟨w.heap.size, 7, none⟩ = some (.int .i64 mi)) (.take 0 (.take 1 (.take 2 (.take 3 (.take 4 (.move 5 (.take 6 (.take 7 (.take 8 (.take 9 (.take 10 (.take 11 (.take 12 (.move 13 (.take 14 (.take 15 (.take 16 (.take 17 (.take 18 (.take 19 (.take 20 (.take 21 (.move 22 (.take 23 (.take 24 .done))))))))))))))))))))))))) (by kernel_rfl) (by kernel_rfl) ?_ ?_
    · go_simp
    intro w1 hs1 hk1
    have HC0 := Lib.hid hs1; clear hs1
    have HK0 : Hid (Keeps (fun k => k = S) w w1) := Lib.hid ((by (repeat (first | exact Keeps.refl _ _ | exact Keeps.alloc _ _ | exact Keeps.drew _ | exact Keeps.drewN _ _ | refine Keeps.trans_drew ?_ | refine Keeps.trans_drewN ?_ | refine Keeps.trans_alloc ?_)) : Keeps (fun k => k = S) w _).trans (hk1.mono (by simp)))
    have HOS := Lib.hid ((H.out.keep (by (repeat (first | exact Keeps.refl _ _ | exact Keeps.alloc _ _ | exact Keeps.drew _ | exact Keeps.drewN _ _ | refine Keeps.trans_drew ?_ | refine Keeps.trans_drewN ?_ | refine Keeps.trans_alloc ?_)))).keep hk1)
    clear hk1
    repeat (first
      | (refine mix_skip rfl (by rfl) ?_; try simp only [Act.put, List.setIfInBounds_toArray, List.set_cons_zero, List.set_cons_succ])
      | (refine mix_skipm rfl (by rfl) ?_; try simp only [Act.put, List.setIfInBounds_toArray, List.set_cons_zero, List.set_cons_succ])
      | (refine mix_take (v := ?_) rfl (by rfl) ?_ ?_; rotate_left; (· intro w' hSw; (try dsimp only at hSw); go_simp; (try with_reducible rfl)); rotate_right; try simp only [Act.put, List.setIfInBounds_toArray, List.set_cons_zero, List.set_cons_succ]))
    refine mix_move rfl (fun K hK => ?_)
    go_simp
    go_at_call 66
    ((with_reducible refine (adjMore_tot S _ _ to _ HOS.out Hn1.out).mono ?_); rintro e w3 ⟨rfl, hk3, hos3⟩; dsimp only)
    have HHOS := Lib.hid hos3; clear hos3
    have h0' := HC0.out
    have HHC0 := Lib.hid (And.intro ((hk3.cell (cell_lt h0'.1) (by simp; omega)).trans h0'.1) (And.intro ((hk3.cell (cell_lt h0'.2.1) (by simp; omega)).trans h0'.2.1) ((hk3.cell (cell_lt h0'.2.2) (by simp; omega)).trans h0'.2.2)))
    clear h0'
    have HHK0 := Lib.hid (HK0.out.trans (hk3.mono (by simp +contextual)))
    refine hK.out _ _ (by exact HHC0.out) ?_
    clear hK K
    try simp only [Act.put, List.setIfInBounds_toArray, List.set_cons_zero, List.set_cons_succ]
    clear hk3
    repeat (first
      | (refine mix_skip rfl (by rfl) ?_; try simp only [Act.put, List.setIfInBounds_toArray, List.set_cons_zero, List.set_cons_succ])
      | (refine mix_skipm rfl (by rfl) ?_; try simp only [Act.put, List.setIfInBounds_toArray, List.set_cons_zero, List.set_cons_succ])
      | (refine mix_take (v := ?_) rfl (by rfl) ?_ ?_; rotate_left; (· intro w' hSw; (try dsimp only at hSw); go_simp; (try with_reducible rfl)); rotate_right; try simp only [Act.put, List.setIfInBounds_toArray, List.set_cons_zero, List.set_cons_succ]))
    refine mix_move rfl (fun K hK => ?_)
    go_simp
    go_at_call 66
    ((with_reducible refine (adjMore_no S 6 _ cr _ (cell_of_cells HHOS.out.blk 6) Hn2.out).mono ?_); rintro e w9 ⟨rfl, hk3⟩; dsimp only)
    have h0' := HHC0.out
    have HKZ := Lib.hid (HHK0.out.trans (hk3.mono (by simp)))
    refine hK.out _ _ (by exact ⟨(hk3.cell (cell_lt h0'.1) (by simp)).trans h0'.1, (hk3.cell (cell_lt h0'.2.1) (by simp)).trans h0'.2.1, (hk3.cell (cell_lt h0'.2.2) (by simp)).trans h0'.2.2⟩) ?_
    clear hK K
    try simp only [Act.put, List.setIfInBounds_toArray, List.set_cons_zero, List.set_cons_succ]
    clear hk3 h0'
    repeat (first
      | (refine mix_skip rfl (by rfl) ?_; try simp only [Act.put, List.setIfInBounds_toArray, List.set_cons_zero, List.set_cons_succ])
      | (refine mix_skipm rfl (by rfl) ?_; try simp only [Act.put, List.setIfInBounds_toArray, List.set_cons_zero, List.set_cons_succ])
      | (refine mix_take (v := ?_) rfl (by rfl) ?_ ?_; rotate_left; (· intro w' hSw; (try dsimp only at hSw); go_simp; (try with_reducible rfl)); rotate_right; try simp only [Act.put, List.setIfInBounds_toArray, List.set_cons_zero, List.set_cons_succ]))
    refine mix_done ?_
    go_wp2
    go_ret
    exact ⟨rfl, HKZ.out⟩
  ·
    have H := Lib.hid h; clear h; have Hn := Lib.hid hn; clear hn; have Hsg := Lib.hid hsg; clear hsg; have Hg := Lib.hid hg; clear hg
    go_enter Try.func54, Try.ntmps54
    go_wp2
    go_quiet (fail)
    go_wp2
    refine wp_region_mixw (fun w' => w'.cell? ⟨w.heap.size, 5, none⟩ = some (.int .i64 to) ∧ w'.cell? ⟨w.heap.size, 6, none⟩ = some (.int .i64 cr) ∧ w'.cell? ⟨w.heap.size, 7, none⟩ = some (.int .i64 mi)) (.take 0 (.take 1 (.take 2 (.take 3 (.take 4 (.move 5 (.take 6 (.take 7 (.take 8 (.take 9 (.take 10 (.take 11 (.take 12 (.move 13 (.take 14 (.take 15 (.take 16 (.take 17 (.take 18 (.take 19 (.take 20 (.take 21 (.move 22 (.take 23 (.take 24 .done))))))))))))))))))))))))) (by kernel_rfl) (by kernel_rfl) ?_ ?_
    · go_simp
    intro w1 hs1 hk1
    have HC0 := Lib.hid hs1; clear hs1
    have HK0 : Hid (Keeps (fun k => k = S) w w1) := Lib.hid ((by (repeat (first | exact Keeps.refl _ _ | exact Keeps.alloc _ _ | exact Keeps.drew _ | exact Keeps.drewN _ _ | refine Keeps.trans_drew ?_ | refine Keeps.trans_drewN ?_ | refine Keeps.trans_alloc ?_)) : Keeps (fun k => k = S) w _).trans (hk1.mono (by simp)))
    have HOS := Lib.hid ((H.out.keep (by (repeat (first | exact Keeps.refl _ _ | exact Keeps.alloc _ _ | exact Keeps.drew _ | exact Keeps.drewN _ _ | refine Keeps.trans_drew ?_ | refine Keeps.trans_drewN ?_ | refine Keeps.trans_alloc ?_)))).keep hk1)
    clear hk1
    repeat (first
      | (refine mix_skip rfl (by rfl) ?_; try simp only [Act.put, List.setIfInBounds_toArray, List.set_cons_zero, List.set_cons_succ])
      | (refine mix_skipm rfl (by rfl) ?_; try simp only [Act.put, List.setIfInBounds_toArray, List.set_cons_zero, List.set_cons_succ])
      | (refine mix_take (v := ?_) rfl (by rfl) ?_ ?_; rotate_left; (· intro w' hSw; (try dsimp only at hSw); go_simp; (try with_reducible rfl)); rotate_right; try simp only [Act.put, List.setIfInBounds_toArray, List.set_cons_zero, List.set_cons_succ]))
    refine mix_move rfl (fun K hK => ?_)
    go_simp
    go_at_call 66
    ((with_reducible refine (adjMore_tot S _ _ to _ HOS.out Hn1.out).mono ?_); rintro e w3 ⟨rfl, hk3, hos3⟩; dsimp only)
    have HHOS := Lib.hid hos3; clear hos3
    have h0' := HC0.out
    have HHC0 := Lib.hid (And.intro ((hk3.cell (cell_lt h0'.1) (by simp; omega)).trans h0'.1) (And.intro ((hk3.cell (cell_lt h0'.2.1) (by simp; omega)).trans h0'.2.1) ((hk3.cell (cell_lt h0'.2.2) (by simp; omega)).trans h0'.2.2)))
    clear h0'
    have HHK0 := Lib.hid (HK0.out.trans (hk3.mono (by simp +contextual)))
    refine hK.out _ _ (by exact HHC0.out) ?_
    clear hK K
    try simp only [Act.put, List.setIfInBounds_toArray, List.set_cons_zero, List.set_cons_succ]
    clear hk3
    repeat (first
      | (refine mix_skip rfl (by rfl) ?_; try simp only [Act.put, List.setIfInBounds_toArray, List.set_cons_zero, List.set_cons_succ])
      | (refine mix_skipm rfl (by rfl) ?_; try simp only [Act.put, List.setIfInBounds_toArray, List.set_cons_zero, List.set_cons_succ])
      | (refine mix_take (v := ?_) rfl (by rfl) ?_ ?_; rotate_left; (· intro w' hSw; (try dsimp only at hSw); go_simp; (try with_reducible rfl)); rotate_right; try simp only [Act.put, List.setIfInBounds_toArray, List.set_cons_zero, List.set_cons_succ]))
    refine mix_move rfl (fun K hK => ?_)
    go_simp
    go_at_call 66
    ((with_reducible refine (adjMore_no S 6 _ cr _ (cell_of_cells HHOS.out.blk 6) Hn2.out).mono ?_); rintro e w9 ⟨rfl, hk3⟩; dsimp only)
    have h0' := HHC0.out
    have HKZ := Lib.hid (HHK0.out.trans (hk3.mono (by simp)))
    refine hK.out _ _ (by exact ⟨(hk3.cell (cell_lt h0'.1) (by simp)).trans h0'.1, (hk3.cell (cell_lt h0'.2.1) (by simp)).trans h0'.2.1, (hk3.cell (cell_lt h0'.2.2) (by simp)).trans h0'.2.2⟩) ?_
    clear hK K
    try simp only [Act.put, List.setIfInBounds_toArray, List.set_cons_zero, List.set_cons_succ]
    clear hk3 h0'
    repeat (first
      | (refine mix_skip rfl (by rfl) ?_; try simp only [Act.put, List.setIfInBounds_toArray, List.set_cons_zero, List.set_cons_succ])
      | (refine mix_skipm rfl (by rfl) ?_; try simp only [Act.put, List.setIfInBounds_toArray, List.set_cons_zero, List.set_cons_succ])
      | (refine mix_take (v := ?_) rfl (by rfl) ?_ ?_; rotate_left; (· intro w' hSw; (try dsimp only at hSw); go_simp; (try with_reducible rfl)); rotate_right; try simp only [Act.put, List.setIfInBounds_toArray, List.set_cons_zero, List.set_cons_succ]))
    refine mix_done ?_
    go_wp2
    go_ret
    exact ⟨rfl, HKZ.out⟩
set_option maxRecDepth 100000 in
set_option maxHeartbeats 3200000 in
theorem adjOnto_w3 (S : Nat) (s : Stm) (v : Value) (a : Adj) (w : World) (h : OS w S s v) (hl : s.lines.length ≤ 1000000) (ht : a.tranche = 0) (hg : graceB s.grace a.grace = true) (hn1 : moreB s.total a.total = true) (hn2 : moreB s.credit a.credit = true) (hn3 : moreB s.min a.min = false) :
    Calls Try.prog 54 #[(.pointer (some ⟨S, 0, none⟩)), a.agg] w fun e w' => e = .returned (.int .i64 5) ∧ Keeps (fun k => k = S) w w' := by
  have b4 := cell_of_cells h.blk 4
  have b8 := cell_of_cells h.blk 8
  have hbl := lt_of_block h.blk
  have hsh := ownsRow_shape h.row
  obtain ⟨ad, cap, rfl, _, _⟩ := hsh
  obtain ⟨sq, cy, tr, ba, it, to, cr, mi, gr⟩ := a
  simp only [Adj.agg] at ht hg ⊢
  obtain ⟨n, hn⟩ : ∃ n, s.lines.length = n := ⟨_, rfl⟩
  rw [hn] at b4 hl
  obtain ⟨sg, hsg⟩ : ∃ g, s.grace = g := ⟨_, rfl⟩
  rw [hsg] at b8 hg
  have b4' : w.cell? ⟨S, 4, none⟩ = some (.slice ad n cap) := b4
  have b8' : w.cell? ⟨S, 8, none⟩ = some (.bool sg) := b8
  clear b4 b8
  subst ht
  have t0 : decide ((n : Int) < 0) = false := by simp
  simp only at hn1 hn2 hn3
  have Hn1 := Lib.hid hn1; clear hn1; have Hn2 := Lib.hid hn2; clear hn2; have Hn3 := Lib.hid hn3; clear hn3
  have hc : gr = 0 ∨ (gr = 1 ∧ sg = false) ∨ (gr = -1 ∧ sg = true) := by
    cases sg <;> simp [graceB] at hg ⊢ <;> omega
  have hsz : S < w.heap.size := hbl
  rcases hc with rfl | ⟨rfl, rfl⟩ | ⟨rfl, rfl⟩
  ·
    have H := Lib.hid h; clear h; have Hn := Lib.hid hn; clear hn; have Hsg := Lib.hid hsg; clear hsg; have Hg := Lib.hid hg; clear hg
    go_enter Try.func54, Try.ntmps54
    go_wp2
    go_quiet (fail)
    go_wp2
    refine wp_region_mixw (fun w' => w'.cell? ⟨w.heap.size, 5, none⟩ = some (.int .i64 to) ∧ w'.cell? ⟨w.heap.size, 6, none⟩ = some (.int .i64 cr) ∧ w'.cell? ⟨w.heap.size, 7, none⟩ = some (.int .i64 mi)) (.take 0 (.take 1 (.take 2 (.take 3 (.take 4 (.move 5 (.take 6 (.take 7 (.take 8 (.take 9 (.take 10 (.take 11 (.take 12 (.move 13 (.take 14 (.take 15 (.take 16 (.take 17 (.take 18 (.take 19 (.take 20 (.take 21 (.move 22 (.take 23 (.take 24 .done))))))))))))))))))))))))) (by kernel_rfl) (by kernel_rfl) ?_ ?_
    · go_simp
    intro w1 hs1 hk1
    have HC0 := Lib.hid hs1; clear hs1
    have HK0 : Hid (Keeps (fun k => k = S) w w1) := Lib.hid ((by (repeat (first | exact Keeps.refl _ _ | exact Keeps.alloc _ _ | exact Keeps.drew _ | exact Keeps.drewN _ _ | refine Keeps.trans_drew ?_ | refine Keeps.trans_drewN ?_ | refine Keeps.trans_alloc ?_)) : Keeps (fun k => k = S) w _).trans (hk1.mono (by simp)))
    have HOS := Lib.hid ((H.out.keep (by (repeat (first | exact Keeps.refl _ _ | exact Keeps.alloc _ _ | exact Keeps.drew _ | exact Keeps.drewN _ _ | refine Keeps.trans_drew ?_ | refine Keeps.trans_drewN ?_ | refine Keeps.trans_alloc ?_)))).keep hk1)
    clear hk1
    repeat (first
      | (refine mix_skip rfl (by rfl) ?_; try simp only [Act.put, List.setIfInBounds_toArray, List.set_cons_zero, List.set_cons_succ])
      | (refine mix_skipm rfl (by rfl) ?_; try simp only [Act.put, List.setIfInBounds_toArray, List.set_cons_zero, List.set_cons_succ])
      | (refine mix_take (v := ?_) rfl (by rfl) ?_ ?_; rotate_left; (· intro w' hSw; (try dsimp only at hSw); go_simp; (try with_reducible rfl)); rotate_right; try simp only [Act.put, List.setIfInBounds_toArray, List.set_cons_zero, List.set_cons_succ]))
    refine mix_move rfl (fun K hK => ?_)
    go_simp
    go_at_call 66
    ((with_reducible refine (adjMore_tot S _ _ to _ HOS.out Hn1.out).mono ?_); rintro e w3 ⟨rfl, hk3, hos3⟩; dsimp only)
    have HHOS := Lib.hid hos3; clear hos3
    have h0' := HC0.out
    have HHC0 := Lib.hid (And.intro ((hk3.cell (cell_lt h0'.1) (by simp; omega)).trans h0'.1) (And.intro ((hk3.cell (cell_lt h0'.2.1) (by simp; omega)).trans h0'.2.1) ((hk3.cell (cell_lt h0'.2.2) (by simp; omega)).trans h0'.2.2)))
    clear h0'
    have HHK0 := Lib.hid (HK0.out.trans (hk3.mono (by simp +contextual)))
    refine hK.out _ _ (by exact HHC0.out) ?_
    clear hK K
    try simp only [Act.put, List.setIfInBounds_toArray, List.set_cons_zero, List.set_cons_succ]
    clear hk3
    repeat (first
      | (refine mix_skip rfl (by rfl) ?_; try simp only [Act.put, List.setIfInBounds_toArray, List.set_cons_zero, List.set_cons_succ])
      | (refine mix_skipm rfl (by rfl) ?_; try simp only [Act.put, List.setIfInBounds_toArray, List.set_cons_zero, List.set_cons_succ])
      | (refine mix_take (v := ?_) rfl (by rfl) ?_ ?_; rotate_left; (· intro w' hSw; (try dsimp only at hSw); go_simp; (try with_reducible rfl)); rotate_right; try simp only [Act.put, List.setIfInBounds_toArray, List.set_cons_zero, List.set_cons_succ]))
    refine mix_move rfl (fun K hK => ?_)
    go_simp
    go_at_call 66
    ((with_reducible refine (adjMore_cre S _ _ cr _ HHOS.out Hn2.out).mono ?_); rintro e w4 ⟨rfl, hk3, hos3⟩; dsimp only)
    have HHHOS := Lib.hid hos3; clear hos3
    have h0' := HHC0.out
    have HHHC0 := Lib.hid (And.intro ((hk3.cell (cell_lt h0'.1) (by simp; omega)).trans h0'.1) (And.intro ((hk3.cell (cell_lt h0'.2.1) (by simp; omega)).trans h0'.2.1) ((hk3.cell (cell_lt h0'.2.2) (by simp; omega)).trans h0'.2.2)))
    clear h0'
    have HHHK0 := Lib.hid (HHK0.out.trans (hk3.mono (by simp +contextual)))
    refine hK.out _ _ (by exact HHHC0.out) ?_
    clear hK K
    try simp only [Act.put, List.setIfInBounds_toArray, List.set_cons_zero, List.set_cons_succ]
    clear hk3
    repeat (first
      | (refine mix_skip rfl (by rfl) ?_; try simp only [Act.put, List.setIfInBounds_toArray, List.set_cons_zero, List.set_cons_succ])
      | (refine mix_skipm rfl (by rfl) ?_; try simp only [Act.put, List.setIfInBounds_toArray, List.set_cons_zero, List.set_cons_succ])
      | (refine mix_take (v := ?_) rfl (by rfl) ?_ ?_; rotate_left; (· intro w' hSw; (try dsimp only at hSw); go_simp; (try with_reducible rfl)); rotate_right; try simp only [Act.put, List.setIfInBounds_toArray, List.set_cons_zero, List.set_cons_succ]))
    refine mix_move rfl (fun K hK => ?_)
    go_simp
    go_at_call 66
    ((with_reducible refine (adjMore_no S 7 _ mi _ (cell_of_cells HHHOS.out.blk 7) Hn3.out).mono ?_); rintro e w9 ⟨rfl, hk3⟩; dsimp only)
    have h0' := HHHC0.out
    have HKZ := Lib.hid (HHHK0.out.trans (hk3.mono (by simp)))
    refine hK.out _ _ (by exact ⟨(hk3.cell (cell_lt h0'.1) (by simp)).trans h0'.1, (hk3.cell (cell_lt h0'.2.1) (by simp)).trans h0'.2.1, (hk3.cell (cell_lt h0'.2.2) (by simp)).trans h0'.2.2⟩) ?_
    clear hK K
    try simp only [Act.put, List.setIfInBounds_toArray, List.set_cons_zero, List.set_cons_succ]
    clear hk3 h0'
    repeat (first
      | (refine mix_skip rfl (by rfl) ?_; try simp only [Act.put, List.setIfInBounds_toArray, List.set_cons_zero, List.set_cons_succ])
      | (refine mix_skipm rfl (by rfl) ?_; try simp only [Act.put, List.setIfInBounds_toArray, List.set_cons_zero, List.set_cons_succ])
      | (refine mix_take (v := ?_) rfl (by rfl) ?_ ?_; rotate_left; (· intro w' hSw; (try dsimp only at hSw); go_simp; (try with_reducible rfl)); rotate_right; try simp only [Act.put, List.setIfInBounds_toArray, List.set_cons_zero, List.set_cons_succ]))
    refine mix_done ?_
    go_wp2
    go_ret
    exact ⟨rfl, HKZ.out⟩
  ·
    have H := Lib.hid h; clear h; have Hn := Lib.hid hn; clear hn; have Hsg := Lib.hid hsg; clear hsg; have Hg := Lib.hid hg; clear hg
    go_enter Try.func54, Try.ntmps54
    go_wp2
    go_quiet (fail)
    go_wp2
    refine wp_region_mixw (fun w' => w'.cell? ⟨w.heap.size, 5, none⟩ = some (.int .i64 to) ∧ w'.cell? ⟨w.heap.size, 6, none⟩ = some (.int .i64 cr) ∧ w'.cell? ⟨w.heap.size, 7, none⟩ = some (.int .i64 mi)) (.take 0 (.take 1 (.take 2 (.take 3 (.take 4 (.move 5 (.take 6 (.take 7 (.take 8 (.take 9 (.take 10 (.take 11 (.take 12 (.move 13 (.take 14 (.take 15 (.take 16 (.take 17 (.take 18 (.take 19 (.take 20 (.take 21 (.move 22 (.take 23 (.take 24 .done))))))))))))))))))))))))) (by kernel_rfl) (by kernel_rfl) ?_ ?_
    · go_simp
    intro w1 hs1 hk1
    have HC0 := Lib.hid hs1; clear hs1
    have HK0 : Hid (Keeps (fun k => k = S) w w1) := Lib.hid ((by (repeat (first | exact Keeps.refl _ _ | exact Keeps.alloc _ _ | exact Keeps.drew _ | exact Keeps.drewN _ _ | refine Keeps.trans_drew ?_ | refine Keeps.trans_drewN ?_ | refine Keeps.trans_alloc ?_)) : Keeps (fun k => k = S) w _).trans (hk1.mono (by simp)))
    have HOS := Lib.hid ((H.out.keep (by (repeat (first | exact Keeps.refl _ _ | exact Keeps.alloc _ _ | exact Keeps.drew _ | exact Keeps.drewN _ _ | refine Keeps.trans_drew ?_ | refine Keeps.trans_drewN ?_ | refine Keeps.trans_alloc ?_)))).keep hk1)
    clear hk1
    repeat (first
      | (refine mix_skip rfl (by rfl) ?_; try simp only [Act.put, List.setIfInBounds_toArray, List.set_cons_zero, List.set_cons_succ])
      | (refine mix_skipm rfl (by rfl) ?_; try simp only [Act.put, List.setIfInBounds_toArray, List.set_cons_zero, List.set_cons_succ])
      | (refine mix_take (v := ?_) rfl (by rfl) ?_ ?_; rotate_left; (· intro w' hSw; (try dsimp only at hSw); go_simp; (try with_reducible rfl)); rotate_right; try simp only [Act.put, List.setIfInBounds_toArray, List.set_cons_zero, List.set_cons_succ]))
    refine mix_move rfl (fun K hK => ?_)
    go_simp
    go_at_call 66
    ((with_reducible refine (adjMore_tot S _ _ to _ HOS.out Hn1.out).mono ?_); rintro e w3 ⟨rfl, hk3, hos3⟩; dsimp only)
    have HHOS := Lib.hid hos3; clear hos3
    have h0' := HC0.out
    have HHC0 := Lib.hid (And.intro ((hk3.cell (cell_lt h0'.1) (by simp; omega)).trans h0'.1) (And.intro ((hk3.cell (cell_lt h0'.2.1) (by simp; omega)).trans h0'.2.1) ((hk3.cell (cell_lt h0'.2.2) (by simp; omega)).trans h0'.2.2)))
    clear h0'
    have HHK0 := Lib.hid (HK0.out.trans (hk3.mono (by simp +contextual)))
    refine hK.out _ _ (by exact HHC0.out) ?_
    clear hK K
    try simp only [Act.put, List.setIfInBounds_toArray, List.set_cons_zero, List.set_cons_succ]
    clear hk3
    repeat (first
      | (refine mix_skip rfl (by rfl) ?_; try simp only [Act.put, List.setIfInBounds_toArray, List.set_cons_zero, List.set_cons_succ])
      | (refine mix_skipm rfl (by rfl) ?_; try simp only [Act.put, List.setIfInBounds_toArray, List.set_cons_zero, List.set_cons_succ])
      | (refine mix_take (v := ?_) rfl (by rfl) ?_ ?_; rotate_left; (· intro w' hSw; (try dsimp only at hSw); go_simp; (try with_reducible rfl)); rotate_right; try simp only [Act.put, List.setIfInBounds_toArray, List.set_cons_zero, List.set_cons_succ]))
    refine mix_move rfl (fun K hK => ?_)
    go_simp
    go_at_call 66
    ((with_reducible refine (adjMore_cre S _ _ cr _ HHOS.out Hn2.out).mono ?_); rintro e w4 ⟨rfl, hk3, hos3⟩; dsimp only)
    have HHHOS := Lib.hid hos3; clear hos3
    have h0' := HHC0.out
    have HHHC0 := Lib.hid (And.intro ((hk3.cell (cell_lt h0'.1) (by simp; omega)).trans h0'.1) (And.intro ((hk3.cell (cell_lt h0'.2.1) (by simp; omega)).trans h0'.2.1) ((hk3.cell (cell_lt h0'.2.2) (by simp; omega)).trans h0'.2.2)))
    clear h0'
    have HHHK0 := Lib.hid (HHK0.out.trans (hk3.mono (by simp +contextual)))
    refine hK.out _ _ (by exact HHHC0.out) ?_
    clear hK K
    try simp only [Act.put, List.setIfInBounds_toArray, List.set_cons_zero, List.set_cons_succ]
    clear hk3
    repeat (first
      | (refine mix_skip rfl (by rfl) ?_; try simp only [Act.put, List.setIfInBounds_toArray, List.set_cons_zero, List.set_cons_succ])
      | (refine mix_skipm rfl (by rfl) ?_; try simp only [Act.put, List.setIfInBounds_toArray, List.set_cons_zero, List.set_cons_succ])
      | (refine mix_take (v := ?_) rfl (by rfl) ?_ ?_; rotate_left; (· intro w' hSw; (try dsimp only at hSw); go_simp; (try with_reducible rfl)); rotate_right; try simp only [Act.put, List.setIfInBounds_toArray, List.set_cons_zero, List.set_cons_succ]))
    refine mix_move rfl (fun K hK => ?_)
    go_simp
    go_at_call 66
    ((with_reducible refine (adjMore_no S 7 _ mi _ (cell_of_cells HHHOS.out.blk 7) Hn3.out).mono ?_); rintro e w9 ⟨rfl, hk3⟩; dsimp only)
    have h0' := HHHC0.out
    have HKZ := Lib.hid (HHHK0.out.trans (hk3.mono (by simp)))
    refine hK.out _ _ (by exact ⟨(hk3.cell (cell_lt h0'.1) (by simp)).trans h0'.1, (hk3.cell (cell_lt h0'.2.1) (by simp)).trans h0'.2.1, (hk3.cell (cell_lt h0'.2.2) (by simp)).trans h0'.2.2⟩) ?_
    clear hK K
    try simp only [Act.put, List.setIfInBounds_toArray, List.set_cons_zero, List.set_cons_succ]
    clear hk3 h0'
    repeat (first
      | (refine mix_skip rfl (by rfl) ?_; try simp only [Act.put, List.setIfInBounds_toArray, List.set_cons_zero, List.set_cons_succ])
      | (refine mix_skipm rfl (by rfl) ?_; try simp only [Act.put, List.setIfInBounds_toArray, List.set_cons_zero, List.set_cons_succ])
      | (refine mix_take (v := ?_) rfl (by rfl) ?_ ?_; rotate_left; (· intro w' hSw; (try dsimp only at hSw); go_simp; (try with_reducible rfl)); rotate_right; try simp only [Act.put, List.setIfInBounds_toArray, List.set_cons_zero, List.set_cons_succ]))
    refine mix_done ?_
    go_wp2
    go_ret
    exact ⟨rfl, HKZ.out⟩
  ·
    have H := Lib.hid h; clear h; have Hn := Lib.hid hn; clear hn; have Hsg := Lib.hid hsg; clear hsg; have Hg := Lib.hid hg; clear hg
    go_enter Try.func54, Try.ntmps54
    go_wp2
    go_quiet (fail)
    go_wp2
    refine wp_region_mixw (fun w' => w'.cell? ⟨w.heap.size, 5, none⟩ = some (.int .i64 to) ∧ w'.cell? ⟨w.heap.size, 6, none⟩ = some (.int .i64 cr) ∧ w'.cell? ⟨w.heap.size, 7, none⟩ = some (.int .i64 mi)) (.take 0 (.take 1 (.take 2 (.take 3 (.take 4 (.move 5 (.take 6 (.take 7 (.take 8 (.take 9 (.take 10 (.take 11 (.take 12 (.move 13 (.take 14 (.take 15 (.take 16 (.take 17 (.take 18 (.take 19 (.take 20 (.take 21 (.move 22 (.take 23 (.take 24 .done))))))))))))))))))))))))) (by kernel_rfl) (by kernel_rfl) ?_ ?_
    · go_simp
    intro w1 hs1 hk1
    have HC0 := Lib.hid hs1; clear hs1
    have HK0 : Hid (Keeps (fun k => k = S) w w1) := Lib.hid ((by (repeat (first | exact Keeps.refl _ _ | exact Keeps.alloc _ _ | exact Keeps.drew _ | exact Keeps.drewN _ _ | refine Keeps.trans_drew ?_ | refine Keeps.trans_drewN ?_ | refine Keeps.trans_alloc ?_)) : Keeps (fun k => k = S) w _).trans (hk1.mono (by simp)))
    have HOS := Lib.hid ((H.out.keep (by (repeat (first | exact Keeps.refl _ _ | exact Keeps.alloc _ _ | exact Keeps.drew _ | exact Keeps.drewN _ _ | refine Keeps.trans_drew ?_ | refine Keeps.trans_drewN ?_ | refine Keeps.trans_alloc ?_)))).keep hk1)
    clear hk1
    repeat (first
      | (refine mix_skip rfl (by rfl) ?_; try simp only [Act.put, List.setIfInBounds_toArray, List.set_cons_zero, List.set_cons_succ])
      | (refine mix_skipm rfl (by rfl) ?_; try simp only [Act.put, List.setIfInBounds_toArray, List.set_cons_zero, List.set_cons_succ])
      | (refine mix_take (v := ?_) rfl (by rfl) ?_ ?_; rotate_left; (· intro w' hSw; (try dsimp only at hSw); go_simp; (try with_reducible rfl)); rotate_right; try simp only [Act.put, List.setIfInBounds_toArray, List.set_cons_zero, List.set_cons_succ]))
    refine mix_move rfl (fun K hK => ?_)
    go_simp
    go_at_call 66
    ((with_reducible refine (adjMore_tot S _ _ to _ HOS.out Hn1.out).mono ?_); rintro e w3 ⟨rfl, hk3, hos3⟩; dsimp only)
    have HHOS := Lib.hid hos3; clear hos3
    have h0' := HC0.out
    have HHC0 := Lib.hid (And.intro ((hk3.cell (cell_lt h0'.1) (by simp; omega)).trans h0'.1) (And.intro ((hk3.cell (cell_lt h0'.2.1) (by simp; omega)).trans h0'.2.1) ((hk3.cell (cell_lt h0'.2.2) (by simp; omega)).trans h0'.2.2)))
    clear h0'
    have HHK0 := Lib.hid (HK0.out.trans (hk3.mono (by simp +contextual)))
    refine hK.out _ _ (by exact HHC0.out) ?_
    clear hK K
    try simp only [Act.put, List.setIfInBounds_toArray, List.set_cons_zero, List.set_cons_succ]
    clear hk3
    repeat (first
      | (refine mix_skip rfl (by rfl) ?_; try simp only [Act.put, List.setIfInBounds_toArray, List.set_cons_zero, List.set_cons_succ])
      | (refine mix_skipm rfl (by rfl) ?_; try simp only [Act.put, List.setIfInBounds_toArray, List.set_cons_zero, List.set_cons_succ])
      | (refine mix_take (v := ?_) rfl (by rfl) ?_ ?_; rotate_left; (· intro w' hSw; (try dsimp only at hSw); go_simp; (try with_reducible rfl)); rotate_right; try simp only [Act.put, List.setIfInBounds_toArray, List.set_cons_zero, List.set_cons_succ]))
    refine mix_move rfl (fun K hK => ?_)
    go_simp
    go_at_call 66
    ((with_reducible refine (adjMore_cre S _ _ cr _ HHOS.out Hn2.out).mono ?_); rintro e w4 ⟨rfl, hk3, hos3⟩; dsimp only)
    have HHHOS := Lib.hid hos3; clear hos3
    have h0' := HHC0.out
    have HHHC0 := Lib.hid (And.intro ((hk3.cell (cell_lt h0'.1) (by simp; omega)).trans h0'.1) (And.intro ((hk3.cell (cell_lt h0'.2.1) (by simp; omega)).trans h0'.2.1) ((hk3.cell (cell_lt h0'.2.2) (by simp; omega)).trans h0'.2.2)))
    clear h0'
    have HHHK0 := Lib.hid (HHK0.out.trans (hk3.mono (by simp +contextual)))
    refine hK.out _ _ (by exact HHHC0.out) ?_
    clear hK K
    try simp only [Act.put, List.setIfInBounds_toArray, List.set_cons_zero, List.set_cons_succ]
    clear hk3
    repeat (first
      | (refine mix_skip rfl (by rfl) ?_; try simp only [Act.put, List.setIfInBounds_toArray, List.set_cons_zero, List.set_cons_succ])
      | (refine mix_skipm rfl (by rfl) ?_; try simp only [Act.put, List.setIfInBounds_toArray, List.set_cons_zero, List.set_cons_succ])
      | (refine mix_take (v := ?_) rfl (by rfl) ?_ ?_; rotate_left; (· intro w' hSw; (try dsimp only at hSw); go_simp; (try with_reducible rfl)); rotate_right; try simp only [Act.put, List.setIfInBounds_toArray, List.set_cons_zero, List.set_cons_succ]))
    refine mix_move rfl (fun K hK => ?_)
    go_simp
    go_at_call 66
    ((with_reducible refine (adjMore_no S 7 _ mi _ (cell_of_cells HHHOS.out.blk 7) Hn3.out).mono ?_); rintro e w9 ⟨rfl, hk3⟩; dsimp only)
    have h0' := HHHC0.out
    have HKZ := Lib.hid (HHHK0.out.trans (hk3.mono (by simp)))
    refine hK.out _ _ (by exact ⟨(hk3.cell (cell_lt h0'.1) (by simp)).trans h0'.1, (hk3.cell (cell_lt h0'.2.1) (by simp)).trans h0'.2.1, (hk3.cell (cell_lt h0'.2.2) (by simp)).trans h0'.2.2⟩) ?_
    clear hK K
    try simp only [Act.put, List.setIfInBounds_toArray, List.set_cons_zero, List.set_cons_succ]
    clear hk3 h0'
    repeat (first
      | (refine mix_skip rfl (by rfl) ?_; try simp only [Act.put, List.setIfInBounds_toArray, List.set_cons_zero, List.set_cons_succ])
      | (refine mix_skipm rfl (by rfl) ?_; try simp only [Act.put, List.setIfInBounds_toArray, List.set_cons_zero, List.set_cons_succ])
      | (refine mix_take (v := ?_) rfl (by rfl) ?_ ?_; rotate_left; (· intro w' hSw; (try dsimp only at hSw); go_simp; (try with_reducible rfl)); rotate_right; try simp only [Act.put, List.setIfInBounds_toArray, List.set_cons_zero, List.set_cons_succ]))
    refine mix_done ?_
    go_wp2
    go_ret
    exact ⟨rfl, HKZ.out⟩
set_option maxRecDepth 100000 in
set_option maxHeartbeats 3200000 in
theorem adjOnto_w4 (S : Nat) (s : Stm) (v : Value) (a : Adj) (w : World) (h : OS w S s v) (hl : s.lines.length ≤ 1000000) (ht : a.tranche = 0) (hg : graceB s.grace a.grace = true) (hn1 : moreB s.total a.total = true) (hn2 : moreB s.credit a.credit = true) (hn3 : moreB s.min a.min = true) :
    Calls Try.prog 54 #[(.pointer (some ⟨S, 0, none⟩)), a.agg] w fun e w' => e = .returned (.int .i64 0) ∧ Keeps (fun k => k = S) w w' ∧ OS w' S { s with total := s.total + a.total, credit := s.credit + a.credit, min := s.min + a.min, grace := turnB s.grace a.grace } v := by
  have b4 := cell_of_cells h.blk 4
  have b8 := cell_of_cells h.blk 8
  have hbl := lt_of_block h.blk
  have hsh := ownsRow_shape h.row
  obtain ⟨ad, cap, rfl, _, _⟩ := hsh
  obtain ⟨sq, cy, tr, ba, it, to, cr, mi, gr⟩ := a
  simp only [Adj.agg] at ht hg ⊢
  obtain ⟨n, hn⟩ : ∃ n, s.lines.length = n := ⟨_, rfl⟩
  rw [hn] at b4 hl
  obtain ⟨sg, hsg⟩ : ∃ g, s.grace = g := ⟨_, rfl⟩
  rw [hsg] at b8 hg
  have b4' : w.cell? ⟨S, 4, none⟩ = some (.slice ad n cap) := b4
  have b8' : w.cell? ⟨S, 8, none⟩ = some (.bool sg) := b8
  clear b4 b8
  subst ht
  have t0 : decide ((n : Int) < 0) = false := by simp
  simp only at hn1 hn2 hn3
  have Hn1 := Lib.hid hn1; clear hn1; have Hn2 := Lib.hid hn2; clear hn2; have Hn3 := Lib.hid hn3; clear hn3
  have hc : gr = 0 ∨ (gr = 1 ∧ sg = false) ∨ (gr = -1 ∧ sg = true) := by
    cases sg <;> simp [graceB] at hg ⊢ <;> omega
  have hsz : S < w.heap.size := hbl
  rcases hc with rfl | ⟨rfl, rfl⟩ | ⟨rfl, rfl⟩
  ·
    have H := Lib.hid h; clear h; have Hn := Lib.hid hn; clear hn; have Hsg := Lib.hid hsg; clear hsg; have Hg := Lib.hid hg; clear hg
    go_enter Try.func54, Try.ntmps54
    go_wp2
    go_quiet (fail)
    go_wp2
    refine wp_region_mixw (fun w' => w'.cell? ⟨w.heap.size, 5, none⟩ = some (.int .i64 to) ∧ w'.cell? ⟨w.heap.size, 6, none⟩ = some (.int .i64 cr) ∧ w'.cell? ⟨w.heap.size, 7, none⟩ = some (.int .i64 mi)) (.take 0 (.take 1 (.take 2 (.take 3 (.take 4 (.move 5 (.take 6 (.take 7 (.take 8 (.take 9 (.take 10 (.take 11 (.take 12 (.move 13 (.take 14 (.take 15 (.take 16 (.take 17 (.take 18 (.take 19 (.take 20 (.take 21 (.move 22 (.take 23 (.take 24 .done))))))))))))))))))))))))) (by kernel_rfl) (by kernel_rfl) ?_ ?_
    · go_simp
    intro w1 hs1 hk1
    have HC0 := Lib.hid hs1; clear hs1
    have HK0 : Hid (Keeps (fun k => k = S) w w1) := Lib.hid ((by (repeat (first | exact Keeps.refl _ _ | exact Keeps.alloc _ _ | exact Keeps.drew _ | exact Keeps.drewN _ _ | refine Keeps.trans_drew ?_ | refine Keeps.trans_drewN ?_ | refine Keeps.trans_alloc ?_)) : Keeps (fun k => k = S) w _).trans (hk1.mono (by simp)))
    have HOS := Lib.hid ((H.out.keep (by (repeat (first | exact Keeps.refl _ _ | exact Keeps.alloc _ _ | exact Keeps.drew _ | exact Keeps.drewN _ _ | refine Keeps.trans_drew ?_ | refine Keeps.trans_drewN ?_ | refine Keeps.trans_alloc ?_)))).keep hk1)
    clear hk1
    repeat (first
      | (refine mix_skip rfl (by rfl) ?_; try simp only [Act.put, List.setIfInBounds_toArray, List.set_cons_zero, List.set_cons_succ])
      | (refine mix_skipm rfl (by rfl) ?_; try simp only [Act.put, List.setIfInBounds_toArray, List.set_cons_zero, List.set_cons_succ])
      | (refine mix_take (v := ?_) rfl (by rfl) ?_ ?_; rotate_left; (· intro w' hSw; (try dsimp only at hSw); go_simp; (try with_reducible rfl)); rotate_right; try simp only [Act.put, List.setIfInBounds_toArray, List.set_cons_zero, List.set_cons_succ]))
    refine mix_move rfl (fun K hK => ?_)
    go_simp
    go_at_call 66
    ((with_reducible refine (adjMore_tot S _ _ to _ HOS.out Hn1.out).mono ?_); rintro e w3 ⟨rfl, hk3, hos3⟩; dsimp only)
    have HHOS := Lib.hid hos3; clear hos3
    have h0' := HC0.out
    have HHC0 := Lib.hid (And.intro ((hk3.cell (cell_lt h0'.1) (by simp; omega)).trans h0'.1) (And.intro ((hk3.cell (cell_lt h0'.2.1) (by simp; omega)).trans h0'.2.1) ((hk3.cell (cell_lt h0'.2.2) (by simp; omega)).trans h0'.2.2)))
    clear h0'
    have HHK0 := Lib.hid (HK0.out.trans (hk3.mono (by simp +contextual)))
    refine hK.out _ _ (by exact HHC0.out) ?_
    clear hK K
    try simp only [Act.put, List.setIfInBounds_toArray, List.set_cons_zero, List.set_cons_succ]
    clear hk3
    repeat (first
      | (refine mix_skip rfl (by rfl) ?_; try simp only [Act.put, List.setIfInBounds_toArray, List.set_cons_zero, List.set_cons_succ])
      | (refine mix_skipm rfl (by rfl) ?_; try simp only [Act.put, List.setIfInBounds_toArray, List.set_cons_zero, List.set_cons_succ])
      | (refine mix_take (v := ?_) rfl (by rfl) ?_ ?_; rotate_left; (· intro w' hSw; (try dsimp only at hSw); go_simp; (try with_reducible rfl)); rotate_right; try simp only [Act.put, List.setIfInBounds_toArray, List.set_cons_zero, List.set_cons_succ]))
    refine mix_move rfl (fun K hK => ?_)
    go_simp
    go_at_call 66
    ((with_reducible refine (adjMore_cre S _ _ cr _ HHOS.out Hn2.out).mono ?_); rintro e w4 ⟨rfl, hk3, hos3⟩; dsimp only)
    have HHHOS := Lib.hid hos3; clear hos3
    have h0' := HHC0.out
    have HHHC0 := Lib.hid (And.intro ((hk3.cell (cell_lt h0'.1) (by simp; omega)).trans h0'.1) (And.intro ((hk3.cell (cell_lt h0'.2.1) (by simp; omega)).trans h0'.2.1) ((hk3.cell (cell_lt h0'.2.2) (by simp; omega)).trans h0'.2.2)))
    clear h0'
    have HHHK0 := Lib.hid (HHK0.out.trans (hk3.mono (by simp +contextual)))
    refine hK.out _ _ (by exact HHHC0.out) ?_
    clear hK K
    try simp only [Act.put, List.setIfInBounds_toArray, List.set_cons_zero, List.set_cons_succ]
    clear hk3
    repeat (first
      | (refine mix_skip rfl (by rfl) ?_; try simp only [Act.put, List.setIfInBounds_toArray, List.set_cons_zero, List.set_cons_succ])
      | (refine mix_skipm rfl (by rfl) ?_; try simp only [Act.put, List.setIfInBounds_toArray, List.set_cons_zero, List.set_cons_succ])
      | (refine mix_take (v := ?_) rfl (by rfl) ?_ ?_; rotate_left; (· intro w' hSw; (try dsimp only at hSw); go_simp; (try with_reducible rfl)); rotate_right; try simp only [Act.put, List.setIfInBounds_toArray, List.set_cons_zero, List.set_cons_succ]))
    refine mix_move rfl (fun K hK => ?_)
    go_simp
    go_at_call 66
    ((with_reducible refine (adjMore_min S _ _ mi _ HHHOS.out Hn3.out).mono ?_); rintro e w5 ⟨rfl, hk3, hos3⟩; dsimp only)
    have HHHHOS := Lib.hid hos3; clear hos3
    have h0' := HHHC0.out
    have HHHHC0 := Lib.hid (And.intro ((hk3.cell (cell_lt h0'.1) (by simp; omega)).trans h0'.1) (And.intro ((hk3.cell (cell_lt h0'.2.1) (by simp; omega)).trans h0'.2.1) ((hk3.cell (cell_lt h0'.2.2) (by simp; omega)).trans h0'.2.2)))
    clear h0'
    have HHHHK0 := Lib.hid (HHHK0.out.trans (hk3.mono (by simp +contextual)))
    refine hK.out _ _ (by exact HHHHC0.out) ?_
    clear hK K
    try simp only [Act.put, List.setIfInBounds_toArray, List.set_cons_zero, List.set_cons_succ]
    clear hk3
    repeat (first
      | (refine mix_skip rfl (by rfl) ?_; try simp only [Act.put, List.setIfInBounds_toArray, List.set_cons_zero, List.set_cons_succ])
      | (refine mix_skipm rfl (by rfl) ?_; try simp only [Act.put, List.setIfInBounds_toArray, List.set_cons_zero, List.set_cons_succ])
      | (refine mix_take (v := ?_) rfl (by rfl) ?_ ?_; rotate_left; (· intro w' hSw; (try dsimp only at hSw); go_simp; (try with_reducible rfl)); rotate_right; try simp only [Act.put, List.setIfInBounds_toArray, List.set_cons_zero, List.set_cons_succ]))
    have b8'' : w5.cell? ⟨S, 8, none⟩ = some (.bool sg) := (cell_of_cells HHHHOS.out.blk 8).trans (by simp [Hsg.out])
    have f8 : w5.frozen? ⟨S, 8, none⟩ = false := free_of_cells HHHHOS.out.blk 8
    refine mix_done ?_
    go_wp2
    go_ret
    exact ⟨rfl, HHHHK0.out.trans (Keeps.setCell _ _ _ (.inl rfl)), HHHHOS.out.store (Keeps.setCell _ _ _ rfl) 8 _ rfl (by simp [turnB, Hsg.out]) rfl⟩
  ·
    have H := Lib.hid h; clear h; have Hn := Lib.hid hn; clear hn; have Hsg := Lib.hid hsg; clear hsg; have Hg := Lib.hid hg; clear hg
    go_enter Try.func54, Try.ntmps54
    go_wp2
    go_quiet (fail)
    go_wp2
    refine wp_region_mixw (fun w' => w'.cell? ⟨w.heap.size, 5, none⟩ = some (.int .i64 to) ∧ w'.cell? ⟨w.heap.size, 6, none⟩ = some (.int .i64 cr) ∧ w'.cell? ⟨w.heap.size, 7, none⟩ = some (.int .i64 mi)) (.take 0 (.take 1 (.take 2 (.take 3 (.take 4 (.move 5 (.take 6 (.take 7 (.take 8 (.take 9 (.take 10 (.take 11 (.take 12 (.move 13 (.take 14 (.take 15 (.take 16 (.take 17 (.take 18 (.take 19 (.take 20 (.take 21 (.move 22 (.take 23 (.take 24 .done))))))))))))))))))))))))) (by kernel_rfl) (by kernel_rfl) ?_ ?_
    · go_simp
    intro w1 hs1 hk1
    have HC0 := Lib.hid hs1; clear hs1
    have HK0 : Hid (Keeps (fun k => k = S) w w1) := Lib.hid ((by (repeat (first | exact Keeps.refl _ _ | exact Keeps.alloc _ _ | exact Keeps.drew _ | exact Keeps.drewN _ _ | refine Keeps.trans_drew ?_ | refine Keeps.trans_drewN ?_ | refine Keeps.trans_alloc ?_)) : Keeps (fun k => k = S) w _).trans (hk1.mono (by simp)))
    have HOS := Lib.hid ((H.out.keep (by (repeat (first | exact Keeps.refl _ _ | exact Keeps.alloc _ _ | exact Keeps.drew _ | exact Keeps.drewN _ _ | refine Keeps.trans_drew ?_ | refine Keeps.trans_drewN ?_ | refine Keeps.trans_alloc ?_)))).keep hk1)
    clear hk1
    repeat (first
      | (refine mix_skip rfl (by rfl) ?_; try simp only [Act.put, List.setIfInBounds_toArray, List.set_cons_zero, List.set_cons_succ])
      | (refine mix_skipm rfl (by rfl) ?_; try simp only [Act.put, List.setIfInBounds_toArray, List.set_cons_zero, List.set_cons_succ])
      | (refine mix_take (v := ?_) rfl (by rfl) ?_ ?_; rotate_left; (· intro w' hSw; (try dsimp only at hSw); go_simp; (try with_reducible rfl)); rotate_right; try simp only [Act.put, List.setIfInBounds_toArray, List.set_cons_zero, List.set_cons_succ]))
    refine mix_move rfl (fun K hK => ?_)
    go_simp
    go_at_call 66
    ((with_reducible refine (adjMore_tot S _ _ to _ HOS.out Hn1.out).mono ?_); rintro e w3 ⟨rfl, hk3, hos3⟩; dsimp only)
    have HHOS := Lib.hid hos3; clear hos3
    have h0' := HC0.out
    have HHC0 := Lib.hid (And.intro ((hk3.cell (cell_lt h0'.1) (by simp; omega)).trans h0'.1) (And.intro ((hk3.cell (cell_lt h0'.2.1) (by simp; omega)).trans h0'.2.1) ((hk3.cell (cell_lt h0'.2.2) (by simp; omega)).trans h0'.2.2)))
    clear h0'
    have HHK0 := Lib.hid (HK0.out.trans (hk3.mono (by simp +contextual)))
    refine hK.out _ _ (by exact HHC0.out) ?_
    clear hK K
    try simp only [Act.put, List.setIfInBounds_toArray, List.set_cons_zero, List.set_cons_succ]
    clear hk3
    repeat (first
      | (refine mix_skip rfl (by rfl) ?_; try simp only [Act.put, List.setIfInBounds_toArray, List.set_cons_zero, List.set_cons_succ])
      | (refine mix_skipm rfl (by rfl) ?_; try simp only [Act.put, List.setIfInBounds_toArray, List.set_cons_zero, List.set_cons_succ])
      | (refine mix_take (v := ?_) rfl (by rfl) ?_ ?_; rotate_left; (· intro w' hSw; (try dsimp only at hSw); go_simp; (try with_reducible rfl)); rotate_right; try simp only [Act.put, List.setIfInBounds_toArray, List.set_cons_zero, List.set_cons_succ]))
    refine mix_move rfl (fun K hK => ?_)
    go_simp
    go_at_call 66
    ((with_reducible refine (adjMore_cre S _ _ cr _ HHOS.out Hn2.out).mono ?_); rintro e w4 ⟨rfl, hk3, hos3⟩; dsimp only)
    have HHHOS := Lib.hid hos3; clear hos3
    have h0' := HHC0.out
    have HHHC0 := Lib.hid (And.intro ((hk3.cell (cell_lt h0'.1) (by simp; omega)).trans h0'.1) (And.intro ((hk3.cell (cell_lt h0'.2.1) (by simp; omega)).trans h0'.2.1) ((hk3.cell (cell_lt h0'.2.2) (by simp; omega)).trans h0'.2.2)))
    clear h0'
    have HHHK0 := Lib.hid (HHK0.out.trans (hk3.mono (by simp +contextual)))
    refine hK.out _ _ (by exact HHHC0.out) ?_
    clear hK K
    try simp only [Act.put, List.setIfInBounds_toArray, List.set_cons_zero, List.set_cons_succ]
    clear hk3
    repeat (first
      | (refine mix_skip rfl (by rfl) ?_; try simp only [Act.put, List.setIfInBounds_toArray, List.set_cons_zero, List.set_cons_succ])
      | (refine mix_skipm rfl (by rfl) ?_; try simp only [Act.put, List.setIfInBounds_toArray, List.set_cons_zero, List.set_cons_succ])
      | (refine mix_take (v := ?_) rfl (by rfl) ?_ ?_; rotate_left; (· intro w' hSw; (try dsimp only at hSw); go_simp; (try with_reducible rfl)); rotate_right; try simp only [Act.put, List.setIfInBounds_toArray, List.set_cons_zero, List.set_cons_succ]))
    refine mix_move rfl (fun K hK => ?_)
    go_simp
    go_at_call 66
    ((with_reducible refine (adjMore_min S _ _ mi _ HHHOS.out Hn3.out).mono ?_); rintro e w5 ⟨rfl, hk3, hos3⟩; dsimp only)
    have HHHHOS := Lib.hid hos3; clear hos3
    have h0' := HHHC0.out
    have HHHHC0 := Lib.hid (And.intro ((hk3.cell (cell_lt h0'.1) (by simp; omega)).trans h0'.1) (And.intro ((hk3.cell (cell_lt h0'.2.1) (by simp; omega)).trans h0'.2.1) ((hk3.cell (cell_lt h0'.2.2) (by simp; omega)).trans h0'.2.2)))
    clear h0'
    have HHHHK0 := Lib.hid (HHHK0.out.trans (hk3.mono (by simp +contextual)))
    refine hK.out _ _ (by exact HHHHC0.out) ?_
    clear hK K
    try simp only [Act.put, List.setIfInBounds_toArray, List.set_cons_zero, List.set_cons_succ]
    clear hk3
    repeat (first
      | (refine mix_skip rfl (by rfl) ?_; try simp only [Act.put, List.setIfInBounds_toArray, List.set_cons_zero, List.set_cons_succ])
      | (refine mix_skipm rfl (by rfl) ?_; try simp only [Act.put, List.setIfInBounds_toArray, List.set_cons_zero, List.set_cons_succ])
      | (refine mix_take (v := ?_) rfl (by rfl) ?_ ?_; rotate_left; (· intro w' hSw; (try dsimp only at hSw); go_simp; (try with_reducible rfl)); rotate_right; try simp only [Act.put, List.setIfInBounds_toArray, List.set_cons_zero, List.set_cons_succ]))
    have b8'' : w5.cell? ⟨S, 8, none⟩ = some (.bool false) := (cell_of_cells HHHHOS.out.blk 8).trans (by simp [Hsg.out])
    have f8 : w5.frozen? ⟨S, 8, none⟩ = false := free_of_cells HHHHOS.out.blk 8
    refine mix_done ?_
    go_wp2
    go_ret
    exact ⟨rfl, HHHHK0.out.trans (Keeps.setCell _ _ _ (.inl rfl)), HHHHOS.out.store (Keeps.setCell _ _ _ rfl) 8 _ rfl (by simp [turnB, Hsg.out]) rfl⟩
  ·
    have H := Lib.hid h; clear h; have Hn := Lib.hid hn; clear hn; have Hsg := Lib.hid hsg; clear hsg; have Hg := Lib.hid hg; clear hg
    go_enter Try.func54, Try.ntmps54
    go_wp2
    go_quiet (fail)
    go_wp2
    refine wp_region_mixw (fun w' => w'.cell? ⟨w.heap.size, 5, none⟩ = some (.int .i64 to) ∧ w'.cell? ⟨w.heap.size, 6, none⟩ = some (.int .i64 cr) ∧ w'.cell? ⟨w.heap.size, 7, none⟩ = some (.int .i64 mi)) (.take 0 (.take 1 (.take 2 (.take 3 (.take 4 (.move 5 (.take 6 (.take 7 (.take 8 (.take 9 (.take 10 (.take 11 (.take 12 (.move 13 (.take 14 (.take 15 (.take 16 (.take 17 (.take 18 (.take 19 (.take 20 (.take 21 (.move 22 (.take 23 (.take 24 .done))))))))))))))))))))))))) (by kernel_rfl) (by kernel_rfl) ?_ ?_
    · go_simp
    intro w1 hs1 hk1
    have HC0 := Lib.hid hs1; clear hs1
    have HK0 : Hid (Keeps (fun k => k = S) w w1) := Lib.hid ((by (repeat (first | exact Keeps.refl _ _ | exact Keeps.alloc _ _ | exact Keeps.drew _ | exact Keeps.drewN _ _ | refine Keeps.trans_drew ?_ | refine Keeps.trans_drewN ?_ | refine Keeps.trans_alloc ?_)) : Keeps (fun k => k = S) w _).trans (hk1.mono (by simp)))
    have HOS := Lib.hid ((H.out.keep (by (repeat (first | exact Keeps.refl _ _ | exact Keeps.alloc _ _ | exact Keeps.drew _ | exact Keeps.drewN _ _ | refine Keeps.trans_drew ?_ | refine Keeps.trans_drewN ?_ | refine Keeps.trans_alloc ?_)))).keep hk1)
    clear hk1
    repeat (first
      | (refine mix_skip rfl (by rfl) ?_; try simp only [Act.put, List.setIfInBounds_toArray, List.set_cons_zero, List.set_cons_succ])
      | (refine mix_skipm rfl (by rfl) ?_; try simp only [Act.put, List.setIfInBounds_toArray, List.set_cons_zero, List.set_cons_succ])
      | (refine mix_take (v := ?_) rfl (by rfl) ?_ ?_; rotate_left; (· intro w' hSw; (try dsimp only at hSw); go_simp; (try with_reducible rfl)); rotate_right; try simp only [Act.put, List.setIfInBounds_toArray, List.set_cons_zero, List.set_cons_succ]))
    refine mix_move rfl (fun K hK => ?_)
    go_simp
    go_at_call 66
    ((with_reducible refine (adjMore_tot S _ _ to _ HOS.out Hn1.out).mono ?_); rintro e w3 ⟨rfl, hk3, hos3⟩; dsimp only)
    have HHOS := Lib.hid hos3; clear hos3
    have h0' := HC0.out
    have HHC0 := Lib.hid (And.intro ((hk3.cell (cell_lt h0'.1) (by simp; omega)).trans h0'.1) (And.intro ((hk3.cell (cell_lt h0'.2.1) (by simp; omega)).trans h0'.2.1) ((hk3.cell (cell_lt h0'.2.2) (by simp; omega)).trans h0'.2.2)))
    clear h0'
    have HHK0 := Lib.hid (HK0.out.trans (hk3.mono (by simp +contextual)))
    refine hK.out _ _ (by exact HHC0.out) ?_
    clear hK K
    try simp only [Act.put, List.setIfInBounds_toArray, List.set_cons_zero, List.set_cons_succ]
    clear hk3
    repeat (first
      | (refine mix_skip rfl (by rfl) ?_; try simp only [Act.put, List.setIfInBounds_toArray, List.set_cons_zero, List.set_cons_succ])
      | (refine mix_skipm rfl (by rfl) ?_; try simp only [Act.put, List.setIfInBounds_toArray, List.set_cons_zero, List.set_cons_succ])
      | (refine mix_take (v := ?_) rfl (by rfl) ?_ ?_; rotate_left; (· intro w' hSw; (try dsimp only at hSw); go_simp; (try with_reducible rfl)); rotate_right; try simp only [Act.put, List.setIfInBounds_toArray, List.set_cons_zero, List.set_cons_succ]))
    refine mix_move rfl (fun K hK => ?_)
    go_simp
    go_at_call 66
    ((with_reducible refine (adjMore_cre S _ _ cr _ HHOS.out Hn2.out).mono ?_); rintro e w4 ⟨rfl, hk3, hos3⟩; dsimp only)
    have HHHOS := Lib.hid hos3; clear hos3
    have h0' := HHC0.out
    have HHHC0 := Lib.hid (And.intro ((hk3.cell (cell_lt h0'.1) (by simp; omega)).trans h0'.1) (And.intro ((hk3.cell (cell_lt h0'.2.1) (by simp; omega)).trans h0'.2.1) ((hk3.cell (cell_lt h0'.2.2) (by simp; omega)).trans h0'.2.2)))
    clear h0'
    have HHHK0 := Lib.hid (HHK0.out.trans (hk3.mono (by simp +contextual)))
    refine hK.out _ _ (by exact HHHC0.out) ?_
    clear hK K
    try simp only [Act.put, List.setIfInBounds_toArray, List.set_cons_zero, List.set_cons_succ]
    clear hk3
    repeat (first
      | (refine mix_skip rfl (by rfl) ?_; try simp only [Act.put, List.setIfInBounds_toArray, List.set_cons_zero, List.set_cons_succ])
      | (refine mix_skipm rfl (by rfl) ?_; try simp only [Act.put, List.setIfInBounds_toArray, List.set_cons_zero, List.set_cons_succ])
      | (refine mix_take (v := ?_) rfl (by rfl) ?_ ?_; rotate_left; (· intro w' hSw; (try dsimp only at hSw); go_simp; (try with_reducible rfl)); rotate_right; try simp only [Act.put, List.setIfInBounds_toArray, List.set_cons_zero, List.set_cons_succ]))
    refine mix_move rfl (fun K hK => ?_)
    go_simp
    go_at_call 66
    ((with_reducible refine (adjMore_min S _ _ mi _ HHHOS.out Hn3.out).mono ?_); rintro e w5 ⟨rfl, hk3, hos3⟩; dsimp only)
    have HHHHOS := Lib.hid hos3; clear hos3
    have h0' := HHHC0.out
    have HHHHC0 := Lib.hid (And.intro ((hk3.cell (cell_lt h0'.1) (by simp; omega)).trans h0'.1) (And.intro ((hk3.cell (cell_lt h0'.2.1) (by simp; omega)).trans h0'.2.1) ((hk3.cell (cell_lt h0'.2.2) (by simp; omega)).trans h0'.2.2)))
    clear h0'
    have HHHHK0 := Lib.hid (HHHK0.out.trans (hk3.mono (by simp +contextual)))
    refine hK.out _ _ (by exact HHHHC0.out) ?_
    clear hK K
    try simp only [Act.put, List.setIfInBounds_toArray, List.set_cons_zero, List.set_cons_succ]
    clear hk3
    repeat (first
      | (refine mix_skip rfl (by rfl) ?_; try simp only [Act.put, List.setIfInBounds_toArray, List.set_cons_zero, List.set_cons_succ])
      | (refine mix_skipm rfl (by rfl) ?_; try simp only [Act.put, List.setIfInBounds_toArray, List.set_cons_zero, List.set_cons_succ])
      | (refine mix_take (v := ?_) rfl (by rfl) ?_ ?_; rotate_left; (· intro w' hSw; (try dsimp only at hSw); go_simp; (try with_reducible rfl)); rotate_right; try simp only [Act.put, List.setIfInBounds_toArray, List.set_cons_zero, List.set_cons_succ]))
    have b8'' : w5.cell? ⟨S, 8, none⟩ = some (.bool true) := (cell_of_cells HHHHOS.out.blk 8).trans (by simp [Hsg.out])
    have f8 : w5.frozen? ⟨S, 8, none⟩ = false := free_of_cells HHHHOS.out.blk 8
    refine mix_done ?_
    go_wp2
    go_ret
    exact ⟨rfl, HHHHK0.out.trans (Keeps.setCell _ _ _ (.inl rfl)), HHHHOS.out.store (Keeps.setCell _ _ _ rfl) 8 _ rfl (by simp [turnB, Hsg.out]) rfl⟩
/-- What one adjust makes of a statement, or why not. -/
def Stm.onto (s : Stm) (a : Adj) : Int × Stm :=
  if a.tranche < 0 ∨ (s.lines.length : Int) < a.tranche then (7, s)
  else if 0 < a.tranche then
    match s.lines[(a.tranche - 1).toNat]? with
    | some x => if moreB x.balance a.balance && moreB x.interest a.interest then (0, { s with lines := s.lines.set (a.tranche - 1).toNat ⟨x.balance + a.balance, x.interest + a.interest, x.rate⟩ }) else (5, s)
    | none => (7, s)
  else if graceB s.grace a.grace && moreB s.total a.total && moreB s.credit a.credit && moreB s.min a.min then
    (0, { s with total := s.total + a.total, credit := s.credit + a.credit, min := s.min + a.min, grace := turnB s.grace a.grace })
  else (5, s)
/-- onto, whatever the adjust. -/
theorem adjOnto_any (S : Nat) (s : Stm) (v : Value) (a : Adj) (w : World) (h : OS w S s v) (hl : s.lines.length ≤ 1000000) :
    Calls Try.prog 54 #[(.pointer (some ⟨S, 0, none⟩)), a.agg] w fun e w' => e = .returned (.int .i64 (s.onto a).1) ∧ Keeps (fun k => k = S ∨ v.ownBlock = some k) w w' ∧ ((s.onto a).1 = 0 → OS w' S (s.onto a).2 v) := by
  by_cases h1 : a.tranche < 0 ∨ (s.lines.length : Int) < a.tranche
  · have e1 : s.onto a = (7, s) := by unfold Stm.onto; rw [if_pos h1]
    rw [e1]
    exact (adjOnto_7 S s v a w h hl h1).mono fun e w' ⟨h2, h3⟩ => ⟨h2, h3.mono (by simp), by simp⟩
  by_cases h2 : 0 < a.tranche
  · obtain ⟨k, hk⟩ : ∃ k : Nat, a.tranche = (k : Int) + 1 := ⟨(a.tranche - 1).toNat, by omega⟩
    have hkn : (a.tranche - 1).toNat = k := by omega
    obtain ⟨x, hx⟩ := get_some (L := s.lines) (k := k) (by omega)
    have e1 : s.onto a = if moreB x.balance a.balance && moreB x.interest a.interest then (0, { s with lines := s.lines.set k ⟨x.balance + a.balance, x.interest + a.interest, x.rate⟩ }) else (5, s) := by
      unfold Stm.onto; rw [if_neg h1, if_pos h2, hkn, hx]
    rw [e1]
    rcases m1 : moreB x.balance a.balance with _ | _
    · exact (adjOnto_l1 S k s v a x w h hl hk hx m1 trivial).mono fun e w' ⟨h2, h3⟩ => ⟨h2, h3.mono (by simp), by simp⟩
    · rcases m2 : moreB x.interest a.interest with _ | _
      · exact (adjOnto_l2 S k s v a x w h hl hk hx m1 m2).mono fun e w' ⟨h2, h3⟩ => ⟨h2, h3.mono (fun _ _ h => .inr h), by simp⟩
      · exact (adjOnto_l3 S k s v a x w h hl hk hx m1 m2).mono fun e w' ⟨h2, h3, h4⟩ => ⟨h2, h3.mono (fun _ _ h => .inr h), fun _ => h4⟩
  · have ht : a.tranche = 0 := by omega
    have e1 : s.onto a = if graceB s.grace a.grace && moreB s.total a.total && moreB s.credit a.credit && moreB s.min a.min then
        (0, { s with total := s.total + a.total, credit := s.credit + a.credit, min := s.min + a.min, grace := turnB s.grace a.grace }) else (5, s) := by
      unfold Stm.onto; rw [if_neg h1, if_neg h2]
    rw [e1]
    rcases m0 : graceB s.grace a.grace with _ | _
    · exact (adjOnto_g S s v a w h hl ht m0).mono fun e w' ⟨h2, h3⟩ => ⟨h2, h3.mono (by simp), by simp⟩
    rcases m1 : moreB s.total a.total with _ | _
    · exact (adjOnto_w1 S s v a w h hl ht m0 m1).mono fun e w' ⟨h2, h3⟩ => ⟨h2, h3.mono (fun _ _ h => .inl h), by simp⟩
    rcases m2 : moreB s.credit a.credit with _ | _
    · exact (adjOnto_w2 S s v a w h hl ht m0 m1 m2).mono fun e w' ⟨h2, h3⟩ => ⟨h2, h3.mono (fun _ _ h => .inl h), by simp⟩
    rcases m3 : moreB s.min a.min with _ | _
    · exact (adjOnto_w3 S s v a w h hl ht m0 m1 m2 m3).mono fun e w' ⟨h2, h3⟩ => ⟨h2, h3.mono (fun _ _ h => .inl h), by simp⟩
    · exact (adjOnto_w4 S s v a w h hl ht m0 m1 m2 m3).mono fun e w' ⟨h2, h3, h4⟩ => ⟨h2, h3.mono (fun _ _ h => .inl h), fun _ => h4⟩
end Go.Proofs.Ythokcmbgamanbaa
