/- The walks of the adjust layer: one adjust onto a line of a statement. -/
import Derived.Test.YthokcmbgamanbaaAdj4
import Derived.Test.YthokcmbgamanbaaMix
import Derived.BigQuiet
namespace Go.Proofs.Ythokcmbgamanbaa
open Go.RowKit
/-- More of a line's balance, or interest, in a row of the call's own. -/
theorem adjMore_line (g cap k : Nat) (L : List Ln) (x y : Ln) (j : Nat) (v d : Int) (w : World) (hr : w.ownsRow 0 62 3 (.slice (some ⟨g, 0, none⟩) L.length cap) L.length (L.flatMap Ln.cells)) (hx : L[k]? = some x) (hj : j < 3) (hv : x.cells[j]? = some (.int .i64 v))
    (hy : x.cells.set j (.int .i64 (v + d)) = y.cells) (hn : moreB v d = true) :
    Calls Try.prog 66 #[.pointer (some ⟨g, k * 3 + j, none⟩), .int .i64 d] w fun e w' => e = .returned (.bool true) ∧ Keeps (fun i => i = g) w w' ∧ w'.ownsRow 0 62 3 (.slice (some ⟨g, 0, none⟩) L.length cap) L.length ((L.set k y).flatMap Ln.cells) :=
  (adjMore_ok g (k * 3 + j) v d w ((owns_elem Ln.cells_length hr hx j hj).trans hv) (hr.frozenAt _) hn).mono fun e w' ⟨h1, h2, h3⟩ =>
    ⟨h1, h2, row_of_heap (owns_store Ln.cells_length hr hx j hj hy) h3⟩
theorem adjMore_bal (g cap k : Nat) (L : List Ln) (x : Ln) (d : Int) (w : World) (hr : w.ownsRow 0 62 3 (.slice (some ⟨g, 0, none⟩) L.length cap) L.length (L.flatMap Ln.cells)) (hx : L[k]? = some x) (hn : moreB x.balance d = true) :
    Calls Try.prog 66 #[.pointer (some ⟨g, k * 3, none⟩), .int .i64 d] w fun e w' => e = .returned (.bool true) ∧ Keeps (fun i => i = g) w w' ∧ w'.ownsRow 0 62 3 (.slice (some ⟨g, 0, none⟩) L.length cap) L.length ((L.set k ⟨x.balance + d, x.interest, x.rate⟩).flatMap Ln.cells) :=
  adjMore_line g cap k L x _ 0 x.balance d w hr hx (by decide) rfl rfl hn
theorem adjMore_int (g cap k n : Nat) (L : List Ln) (x : Ln) (d : Int) (w : World) (hr : w.ownsRow 0 62 3 (.slice (some ⟨g, 0, none⟩) n cap) n (L.flatMap Ln.cells)) (hl : L.length = n) (hx : L[k]? = some x) (hn : moreB x.interest d = true) :
    Calls Try.prog 66 #[.pointer (some ⟨g, k * 3 + 1, none⟩), .int .i64 d] w fun e w' => e = .returned (.bool true) ∧ Keeps (fun i => i = g) w w' ∧ w'.ownsRow 0 62 3 (.slice (some ⟨g, 0, none⟩) n cap) n ((L.set k ⟨x.balance, x.interest + d, x.rate⟩).flatMap Ln.cells) := by
  subst hl; exact adjMore_line g cap k L x _ 1 x.interest d w hr hx (by decide) rfl rfl hn
set_option maxRecDepth 100000 in
set_option maxHeartbeats 3200000 in
theorem adjOnto_l1 (S k : Nat) (s : Stm) (v : Value) (a : Adj) (x : Ln) (w : World) (h : OS w S s v) (hl : s.lines.length ≤ 1000000) (ht : a.tranche = (k : Int) + 1) (hx : s.lines[k]? = some x) (hn1 : moreB x.balance a.balance = false) (hn2 : True) :
    Calls Try.prog 54 #[(.pointer (some ⟨S, 0, none⟩)), a.agg] w fun e w' => e = .returned (.int .i64 5) ∧ Keeps (fun _ => False) w w' := by
  have hlen := lt_of_get hx
  have b4 := cell_of_cells h.blk 4
  have hbl := lt_of_block h.blk
  obtain ⟨g, cap, rfl, hgl⟩ := owns_some h.row (by omega)
  obtain ⟨sq, cy, tr, ba, it, to, cr, mi, gr⟩ := a
  simp only [Adj.agg] at ht hx hn1 hn2 ⊢
  obtain ⟨n, hn⟩ : ∃ n, s.lines.length = n := ⟨_, rfl⟩
  have hkn := lt_of_get hx
  rw [hn] at b4 hl hkn
  have b4' : w.cell? ⟨S, 4, none⟩ = some (.slice (some ⟨g, 0, none⟩) n cap) := b4
  have hrow := h.row
  obtain ⟨xb, xi, xr⟩ := x
  simp only at hn1 hn2
  have x0 : w.cell? ⟨g, k * 3, none⟩ = some (.int .i64 xb) := owns_elem Ln.cells_length hrow hx 0 (by decide)
  have x1 : w.cell? ⟨g, k * 3 + 1, none⟩ = some (.int .i64 xi) := owns_elem Ln.cells_length hrow hx 1 (by decide)
  have xf0 : w.frozen? ⟨g, k * 3, none⟩ = false := hrow.frozenAt _
  have xf1 : w.frozen? ⟨g, k * 3 + 1, none⟩ = false := hrow.frozenAt _
  have t0 : ¬ tr < 0 := by omega
  have t1 : ¬ (n : Int) < tr := by omega
  have t2 : (0 : Int) < tr := by omega
  have t3 : tr - 1 < (n : Int) := by omega
  have t4 : (0 : Int) ≤ tr - 1 := by omega
  have t5 : (tr - 1).toNat = k := by omega
  have t6 : IntKind.i64.wrap (tr - 1) = tr - 1 := IntWalk.i64_in _ (by omega)
  clear b4
  subst ht
  have H := Lib.hid h; clear h; have Hn := Lib.hid hn; clear hn; have Hx := Lib.hid hx; clear hx; have Hrow := Lib.hid hrow; clear hrow; have Hn1 := Lib.hid hn1; clear hn1; have Hn2 := Lib.hid hn2; clear hn2
  go_enter Try.func54, Try.ntmps54
  go_wp2
  go_quiet (fail)
  go_wp2
  go_quiet (fail)
  go_wp2
  refine wp_region_mix (fun w' => w'.cell? ⟨w.heap.size, 3, none⟩ = some (.int .i64 ba) ∧ w'.cell? ⟨w.heap.size, 4, none⟩ = some (.int .i64 it)) (.take 0 (.take 1 (.take 2 (.take 3 (.take 4 (.move 5 (.take 6 (.take 7 (.take 8 (.take 9 (.take 10 (.take 11 (.take 12 (.move 13 (.take 14 (.take 15 .done)))))))))))))))) (by kernel_rfl) (by kernel_rfl) ?_ ?_
  · go_simp
  repeat (first
    | (refine mix_skip rfl (by rfl) ?_; try simp only [Act.put, List.setIfInBounds_toArray, List.set_cons_zero, List.set_cons_succ])
    | (refine mix_skipm rfl (by rfl) ?_; try simp only [Act.put, List.setIfInBounds_toArray, List.set_cons_zero, List.set_cons_succ])
    | (refine mix_take (v := ?_) rfl (by rfl) ?_ ?_; rotate_left; (· intro w' hSw; (try dsimp only at hSw); go_simp; (try with_reducible rfl)); rotate_right; try simp only [Act.put, List.setIfInBounds_toArray, List.set_cons_zero, List.set_cons_succ]))
  refine mix_move rfl (fun K hK => ?_)
  go_simp
  go_at_call 66
  ((with_reducible refine (adjMore_no g (k * 3) xb ba _ (by go_simp) Hn1.out).mono ?_); rintro e w3 ⟨rfl, hk3⟩; dsimp only)
  have HK : Hid (Keeps (fun _ => False) w w3) := Lib.hid (Keeps.none_trans (by (repeat (first | exact Keeps.refl _ _ | exact Keeps.alloc _ _ | exact Keeps.drew _ | exact Keeps.drewN _ _ | refine Keeps.trans_drew ?_ | refine Keeps.trans_drewN ?_ | refine Keeps.trans_alloc ?_))) hk3)
  refine hK.out _ _ (by (constructor <;> (rw [hk3.cell (by simp) (by simp)]; go_simp))) ?_
  clear hK K
  try simp only [Act.put, List.setIfInBounds_toArray, List.set_cons_zero, List.set_cons_succ]
  clear hk3
  repeat (first
    | (refine mix_skip rfl (by rfl) ?_; try simp only [Act.put, List.setIfInBounds_toArray, List.set_cons_zero, List.set_cons_succ])
    | (refine mix_skipm rfl (by rfl) ?_; try simp only [Act.put, List.setIfInBounds_toArray, List.set_cons_zero, List.set_cons_succ])
    | (refine mix_take (v := ?_) rfl (by rfl) ?_ ?_; rotate_left; (· intro w' hSw; (try dsimp only at hSw); go_simp; (try with_reducible rfl)); rotate_right; try simp only [Act.put, List.setIfInBounds_toArray, List.set_cons_zero, List.set_cons_succ]))
  refine mix_done ?_
  go_wp2
  go_ret
  exact ⟨rfl, HK.out⟩
set_option maxRecDepth 100000 in
set_option maxHeartbeats 3200000 in
theorem adjOnto_l2 (S k : Nat) (s : Stm) (v : Value) (a : Adj) (x : Ln) (w : World) (h : OS w S s v) (hl : s.lines.length ≤ 1000000) (ht : a.tranche = (k : Int) + 1) (hx : s.lines[k]? = some x) (hn1 : moreB x.balance a.balance = true) (hn2 : moreB x.interest a.interest = false) :
    Calls Try.prog 54 #[(.pointer (some ⟨S, 0, none⟩)), a.agg] w fun e w' => e = .returned (.int .i64 5) ∧ Keeps (fun k => v.ownBlock = some k) w w' := by
  have hlen := lt_of_get hx
  have b4 := cell_of_cells h.blk 4
  have hbl := lt_of_block h.blk
  obtain ⟨g, cap, rfl, hgl⟩ := owns_some h.row (by omega)
  obtain ⟨sq, cy, tr, ba, it, to, cr, mi, gr⟩ := a
  simp only [Adj.agg] at ht hx hn1 hn2 ⊢
  obtain ⟨n, hn⟩ : ∃ n, s.lines.length = n := ⟨_, rfl⟩
  have hkn := lt_of_get hx
  rw [hn] at b4 hl hkn
  have b4' : w.cell? ⟨S, 4, none⟩ = some (.slice (some ⟨g, 0, none⟩) n cap) := b4
  have hrow := h.row
  obtain ⟨xb, xi, xr⟩ := x
  simp only at hn1 hn2
  have x0 : w.cell? ⟨g, k * 3, none⟩ = some (.int .i64 xb) := owns_elem Ln.cells_length hrow hx 0 (by decide)
  have x1 : w.cell? ⟨g, k * 3 + 1, none⟩ = some (.int .i64 xi) := owns_elem Ln.cells_length hrow hx 1 (by decide)
  have xf0 : w.frozen? ⟨g, k * 3, none⟩ = false := hrow.frozenAt _
  have xf1 : w.frozen? ⟨g, k * 3 + 1, none⟩ = false := hrow.frozenAt _
  have t0 : ¬ tr < 0 := by omega
  have t1 : ¬ (n : Int) < tr := by omega
  have t2 : (0 : Int) < tr := by omega
  have t3 : tr - 1 < (n : Int) := by omega
  have t4 : (0 : Int) ≤ tr - 1 := by omega
  have t5 : (tr - 1).toNat = k := by omega
  have t6 : IntKind.i64.wrap (tr - 1) = tr - 1 := IntWalk.i64_in _ (by omega)
  clear b4
  subst ht
  have H := Lib.hid h; clear h; have Hn := Lib.hid hn; clear hn; have Hx := Lib.hid hx; clear hx; have Hrow := Lib.hid hrow; clear hrow; have Hn1 := Lib.hid hn1; clear hn1; have Hn2 := Lib.hid hn2; clear hn2
  go_enter Try.func54, Try.ntmps54
  go_wp2
  go_quiet (fail)
  go_wp2
  go_quiet (fail)
  go_wp2
  refine wp_region_mix (fun w' => w'.cell? ⟨w.heap.size, 3, none⟩ = some (.int .i64 ba) ∧ w'.cell? ⟨w.heap.size, 4, none⟩ = some (.int .i64 it)) (.take 0 (.take 1 (.take 2 (.take 3 (.take 4 (.move 5 (.take 6 (.take 7 (.take 8 (.take 9 (.take 10 (.take 11 (.take 12 (.move 13 (.take 14 (.take 15 .done)))))))))))))))) (by kernel_rfl) (by kernel_rfl) ?_ ?_
  · go_simp
  repeat (first
    | (refine mix_skip rfl (by rfl) ?_; try simp only [Act.put, List.setIfInBounds_toArray, List.set_cons_zero, List.set_cons_succ])
    | (refine mix_skipm rfl (by rfl) ?_; try simp only [Act.put, List.setIfInBounds_toArray, List.set_cons_zero, List.set_cons_succ])
    | (refine mix_take (v := ?_) rfl (by rfl) ?_ ?_; rotate_left; (· intro w' hSw; (try dsimp only at hSw); go_simp; (try with_reducible rfl)); rotate_right; try simp only [Act.put, List.setIfInBounds_toArray, List.set_cons_zero, List.set_cons_succ]))
  refine mix_move rfl (fun K hK => ?_)
  go_simp
  go_at_call 66
  ((with_reducible refine (adjMore_bal g cap k s.lines ⟨xb, xi, xr⟩ ba _ (Hrow.out.of_keeps (by (repeat (first | exact Keeps.refl _ _ | exact Keeps.alloc _ _ | exact Keeps.drew _ | exact Keeps.drewN _ _ | refine Keeps.trans_drew ?_ | refine Keeps.trans_drewN ?_ | refine Keeps.trans_alloc ?_)))) Hx.out Hn1.out).mono ?_); rintro e w3 ⟨rfl, hk3, hrow3⟩; dsimp only)
  have HK : Hid (Keeps (fun i => i = g) w w3) := Lib.hid (Keeps.trans (by (repeat (first | exact Keeps.refl _ _ | exact Keeps.alloc _ _ | exact Keeps.drew _ | exact Keeps.drewN _ _ | refine Keeps.trans_drew ?_ | refine Keeps.trans_drewN ?_ | refine Keeps.trans_alloc ?_))) (hk3.mono (by simp +contextual)))
  have c3 : w3.cell? ⟨w.heap.size, 3, none⟩ = some (.int .i64 ba) := by rw [hk3.cell (by simp) (by simp; omega)]; go_simp
  have c4 : w3.cell? ⟨w.heap.size, 4, none⟩ = some (.int .i64 it) := by rw [hk3.cell (by simp) (by simp; omega)]; go_simp
  refine hK.out _ _ (by exact ⟨c3, c4⟩) ?_
  clear hK K
  try simp only [Act.put, List.setIfInBounds_toArray, List.set_cons_zero, List.set_cons_succ]
  have Hrow3 := Lib.hid hrow3; clear hrow3
  have x1' : w3.cell? ⟨g, k * 3 + 1, none⟩ = some (.int .i64 xi) := by
    have hlen3 : (s.lines.set k ⟨xb + ba, xi, xr⟩).length = s.lines.length := List.length_set
    have h3 := Hrow3.out
    rw [← hlen3] at h3
    exact owns_elem Ln.cells_length h3 (x := ⟨xb + ba, xi, xr⟩) (by rw [List.getElem?_set]; simp [Hn.out, hkn]) 1 (by decide)
  clear hk3
  repeat (first
    | (refine mix_skip rfl (by rfl) ?_; try simp only [Act.put, List.setIfInBounds_toArray, List.set_cons_zero, List.set_cons_succ])
    | (refine mix_skipm rfl (by rfl) ?_; try simp only [Act.put, List.setIfInBounds_toArray, List.set_cons_zero, List.set_cons_succ])
    | (refine mix_take (v := ?_) rfl (by rfl) ?_ ?_; rotate_left; (· intro w' hSw; (try dsimp only at hSw); go_simp; (try with_reducible rfl)); rotate_right; try simp only [Act.put, List.setIfInBounds_toArray, List.set_cons_zero, List.set_cons_succ]))
  refine mix_move rfl (fun K hK => ?_)
  go_simp
  go_at_call 66
  ((with_reducible refine (adjMore_no g (k * 3 + 1) xi it _ x1' Hn2.out).mono ?_); rintro e w4 ⟨rfl, hk4⟩; dsimp only)
  have HK4 : Hid (Keeps (fun i => i = g) w w4) := Lib.hid (HK.out.trans (hk4.mono (by simp)))
  refine hK.out _ _ (by exact ⟨(hk4.cell (cell_lt c3) (by simp)).trans c3, (hk4.cell (cell_lt c4) (by simp)).trans c4⟩) ?_
  clear hK K
  try simp only [Act.put, List.setIfInBounds_toArray, List.set_cons_zero, List.set_cons_succ]
  clear hk4
  repeat (first
    | (refine mix_skip rfl (by rfl) ?_; try simp only [Act.put, List.setIfInBounds_toArray, List.set_cons_zero, List.set_cons_succ])
    | (refine mix_skipm rfl (by rfl) ?_; try simp only [Act.put, List.setIfInBounds_toArray, List.set_cons_zero, List.set_cons_succ])
    | (refine mix_take (v := ?_) rfl (by rfl) ?_ ?_; rotate_left; (· intro w' hSw; (try dsimp only at hSw); go_simp; (try with_reducible rfl)); rotate_right; try simp only [Act.put, List.setIfInBounds_toArray, List.set_cons_zero, List.set_cons_succ]))
  refine mix_done ?_
  go_wp2
  go_ret
  exact ⟨rfl, HK4.out.mono (by simp +contextual [Value.ownBlock])⟩
set_option maxRecDepth 100000 in
set_option maxHeartbeats 3200000 in
theorem adjOnto_l3 (S k : Nat) (s : Stm) (v : Value) (a : Adj) (x : Ln) (w : World) (h : OS w S s v) (hl : s.lines.length ≤ 1000000) (ht : a.tranche = (k : Int) + 1) (hx : s.lines[k]? = some x) (hn1 : moreB x.balance a.balance = true) (hn2 : moreB x.interest a.interest = true) :
    Calls Try.prog 54 #[(.pointer (some ⟨S, 0, none⟩)), a.agg] w fun e w' => e = .returned (.int .i64 0) ∧ Keeps (fun k => v.ownBlock = some k) w w' ∧ OS w' S { s with lines := s.lines.set k ⟨x.balance + a.balance, x.interest + a.interest, x.rate⟩ } v := by
  have hlen := lt_of_get hx
  have b4 := cell_of_cells h.blk 4
  have hbl := lt_of_block h.blk
  obtain ⟨g, cap, rfl, hgl⟩ := owns_some h.row (by omega)
  obtain ⟨sq, cy, tr, ba, it, to, cr, mi, gr⟩ := a
  simp only [Adj.agg] at ht hx hn1 hn2 ⊢
  obtain ⟨n, hn⟩ : ∃ n, s.lines.length = n := ⟨_, rfl⟩
  have hkn := lt_of_get hx
  rw [hn] at b4 hl hkn
  have b4' : w.cell? ⟨S, 4, none⟩ = some (.slice (some ⟨g, 0, none⟩) n cap) := b4
  have hrow := h.row
  obtain ⟨xb, xi, xr⟩ := x
  simp only at hn1 hn2
  have x0 : w.cell? ⟨g, k * 3, none⟩ = some (.int .i64 xb) := owns_elem Ln.cells_length hrow hx 0 (by decide)
  have x1 : w.cell? ⟨g, k * 3 + 1, none⟩ = some (.int .i64 xi) := owns_elem Ln.cells_length hrow hx 1 (by decide)
  have xf0 : w.frozen? ⟨g, k * 3, none⟩ = false := hrow.frozenAt _
  have xf1 : w.frozen? ⟨g, k * 3 + 1, none⟩ = false := hrow.frozenAt _
  have t0 : ¬ tr < 0 := by omega
  have t1 : ¬ (n : Int) < tr := by omega
  have t2 : (0 : Int) < tr := by omega
  have t3 : tr - 1 < (n : Int) := by omega
  have t4 : (0 : Int) ≤ tr - 1 := by omega
  have t5 : (tr - 1).toNat = k := by omega
  have t6 : IntKind.i64.wrap (tr - 1) = tr - 1 := IntWalk.i64_in _ (by omega)
  clear b4
  subst ht
  have H := Lib.hid h; clear h; have Hn := Lib.hid hn; clear hn; have Hx := Lib.hid hx; clear hx; have Hrow := Lib.hid hrow; clear hrow; have Hn1 := Lib.hid hn1; clear hn1; have Hn2 := Lib.hid hn2; clear hn2
  go_enter Try.func54, Try.ntmps54
  go_wp2
  go_quiet (fail)
  go_wp2
  go_quiet (fail)
  go_wp2
  refine wp_region_mix (fun w' => w'.cell? ⟨w.heap.size, 3, none⟩ = some (.int .i64 ba) ∧ w'.cell? ⟨w.heap.size, 4, none⟩ = some (.int .i64 it)) (.take 0 (.take 1 (.take 2 (.take 3 (.take 4 (.move 5 (.take 6 (.take 7 (.take 8 (.take 9 (.take 10 (.take 11 (.take 12 (.move 13 (.take 14 (.take 15 .done)))))))))))))))) (by kernel_rfl) (by kernel_rfl) ?_ ?_
  · go_simp
  repeat (first
    | (refine mix_skip rfl (by rfl) ?_; try simp only [Act.put, List.setIfInBounds_toArray, List.set_cons_zero, List.set_cons_succ])
    | (refine mix_skipm rfl (by rfl) ?_; try simp only [Act.put, List.setIfInBounds_toArray, List.set_cons_zero, List.set_cons_succ])
    | (refine mix_take (v := ?_) rfl (by rfl) ?_ ?_; rotate_left; (· intro w' hSw; (try dsimp only at hSw); go_simp; (try with_reducible rfl)); rotate_right; try simp only [Act.put, List.setIfInBounds_toArray, List.set_cons_zero, List.set_cons_succ]))
  refine mix_move rfl (fun K hK => ?_)
  go_simp
  go_at_call 66
  ((with_reducible refine (adjMore_bal g cap k s.lines ⟨xb, xi, xr⟩ ba _ (Hrow.out.of_keeps (by (repeat (first | exact Keeps.refl _ _ | exact Keeps.alloc _ _ | exact Keeps.drew _ | exact Keeps.drewN _ _ | refine Keeps.trans_drew ?_ | refine Keeps.trans_drewN ?_ | refine Keeps.trans_alloc ?_)))) Hx.out Hn1.out).mono ?_); rintro e w3 ⟨rfl, hk3, hrow3⟩; dsimp only)
  have HK : Hid (Keeps (fun i => i = g) w w3) := Lib.hid (Keeps.trans (by (repeat (first | exact Keeps.refl _ _ | exact Keeps.alloc _ _ | exact Keeps.drew _ | exact Keeps.drewN _ _ | refine Keeps.trans_drew ?_ | refine Keeps.trans_drewN ?_ | refine Keeps.trans_alloc ?_))) (hk3.mono (by simp +contextual)))
  have c3 : w3.cell? ⟨w.heap.size, 3, none⟩ = some (.int .i64 ba) := by rw [hk3.cell (by simp) (by simp; omega)]; go_simp
  have c4 : w3.cell? ⟨w.heap.size, 4, none⟩ = some (.int .i64 it) := by rw [hk3.cell (by simp) (by simp; omega)]; go_simp
  refine hK.out _ _ (by exact ⟨c3, c4⟩) ?_
  clear hK K
  try simp only [Act.put, List.setIfInBounds_toArray, List.set_cons_zero, List.set_cons_succ]
  have Hrow3 := Lib.hid hrow3; clear hrow3
  clear hk3
  repeat (first
    | (refine mix_skip rfl (by rfl) ?_; try simp only [Act.put, List.setIfInBounds_toArray, List.set_cons_zero, List.set_cons_succ])
    | (refine mix_skipm rfl (by rfl) ?_; try simp only [Act.put, List.setIfInBounds_toArray, List.set_cons_zero, List.set_cons_succ])
    | (refine mix_take (v := ?_) rfl (by rfl) ?_ ?_; rotate_left; (· intro w' hSw; (try dsimp only at hSw); go_simp; (try with_reducible rfl)); rotate_right; try simp only [Act.put, List.setIfInBounds_toArray, List.set_cons_zero, List.set_cons_succ]))
  refine mix_move rfl (fun K hK => ?_)
  go_simp
  go_at_call 66
  ((with_reducible refine (adjMore_int g cap k s.lines.length (s.lines.set k ⟨xb + ba, xi, xr⟩) ⟨xb + ba, xi, xr⟩ it _ Hrow3.out (by rw [List.length_set]) (by rw [List.getElem?_set]; simp [Hn.out, hkn]) Hn2.out).mono ?_); rintro e w4 ⟨rfl, hk4, hrow4⟩; dsimp only)
  have HK4 : Hid (Keeps (fun i => i = g) w w4) := Lib.hid (HK.out.trans (hk4.mono (by simp +contextual)))
  refine hK.out _ _ (by exact ⟨(hk4.cell (cell_lt c3) (by simp; omega)).trans c3, (hk4.cell (cell_lt c4) (by simp; omega)).trans c4⟩) ?_
  clear hK K
  try simp only [Act.put, List.setIfInBounds_toArray, List.set_cons_zero, List.set_cons_succ]
  clear hk4
  have Hrow4 := Lib.hid hrow4; clear hrow4
  repeat (first
    | (refine mix_skip rfl (by rfl) ?_; try simp only [Act.put, List.setIfInBounds_toArray, List.set_cons_zero, List.set_cons_succ])
    | (refine mix_skipm rfl (by rfl) ?_; try simp only [Act.put, List.setIfInBounds_toArray, List.set_cons_zero, List.set_cons_succ])
    | (refine mix_take (v := ?_) rfl (by rfl) ?_ ?_; rotate_left; (· intro w' hSw; (try dsimp only at hSw); go_simp; (try with_reducible rfl)); rotate_right; try simp only [Act.put, List.setIfInBounds_toArray, List.set_cons_zero, List.set_cons_succ]))
  refine mix_done ?_
  go_wp2
  go_ret
  refine ⟨rfl, HK4.out.mono (by simp +contextual [Value.ownBlock]), ?_, ?_⟩
  · have hne := ownsRow_ne Hrow.out H.out.blk (by decide)
    rw [HK4.out.block S hbl (by simp only [Value.ownBlock, ne_eq, Option.some.injEq] at hne; exact fun e => hne e.symm)]
    exact H.out.blk
  · simpa using Hrow4.out
end Go.Proofs.Ythokcmbgamanbaa
