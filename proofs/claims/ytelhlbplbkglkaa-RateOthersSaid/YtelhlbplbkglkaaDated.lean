/- The walks of the dated layer: copies; a list of events; New, place. -/
import Derived.Test.YtelhlbplbkglkaaInsEv
import Derived.Test.YtelhlbplbkglkaaTerms
import Derived.Test.YtelhlbplbkglkaaSrtPl3
namespace Go.Proofs.Ytelhlbplbkglkaa
open Go.RowKit
theorem info_tTr : (Try.prog.info? 61).map (fun i => (i.zero, i.size, i.bytes)) = some (some (.agg #[.int .i64 0, .bool false]), 2, 16) := by kernel_rfl
set_option maxRecDepth 100000 in
set_option maxHeartbeats 400000 in
/-- slices.Clone (cloneTr): a row of its own that reads as the one that was given. -/
theorem cloneTr_any (w : World) (v : Value) (n : Nat) (xs : List Value) (hr : Reads w 2 v n xs) (h1 : ∀ u ∈ xs, u.oneCell' = true) (hn : n ≤ 1000000000000) :
    Calls Try.prog 35 #[v] w fun e w' => ∃ v', e = .returned v' ∧ w'.ownsRow 0 61 2 v' n xs ∧ Keeps (fun _ => False) w w' ∧ (∀ k, v'.ownBlock = some k → w.heap.size ≤ k) := by
  obtain ⟨i0, hi, hz0, hz1, hz2⟩ := info_parts info_tTr
  have hr' := hr
  obtain ⟨ad, c, rfl, hnc, hl, hnone, hcells⟩ := hr'
  clear hcells
  have heq := fun (wx : World) (ad : Option Addr) (l c : Nat) => Lib.run_eql_slice_nil (P := Try.prog) wx 25 _ ad l c 0 0 Try.underlying25
  rcases ad with _ | a
  · obtain rfl := hnone rfl
    obtain rfl : n = 0 := by omega
    obtain rfl : xs = [] := List.eq_nil_of_length_eq_zero (by simpa using hl)
    have hr0 := Lib.hid hr; clear hr
    go_enter Try.func35, Try.ntmps35
    go_wp2
    go_ret
    exact ⟨_, rfl, World.ownsRow_nil _ _ _ _, Keeps.refl _ _, by simp [Value.ownBlock]⟩
  · have Hr := Lib.hid hr; clear hr
    have Hl := Lib.hid hl; clear hl; have Hnone := Lib.hid hnone; clear hnone; have H1 := Lib.hid h1; clear h1
    go_enter Try.func35, Try.ntmps35
    go_wp2_with (at_builtin; refine wpList_append_row rfl (.tmp 5) (.tmp 6) 25 rfl 0 61 i0 _ 2 16 Try.underlying25 hi hz0 hz1 hz2 rfl (by decide) _ 0 [] rfl (World.ownsRow_lit w #[] 0 (by omega) (by unfold maxLen; omega) rfl) _ n xs rfl (Hr.out.keeps (Keeps.alloc (S := fun _ => False) _ _) (by simp)) H1.out (by unfold maxLen; omega) (by omega) (by omega) ?_)
    intro v' w1 hown1 hk1 hfr
    have hend : w1.ownsRow 0 61 2 v' n xs ∧ Keeps (fun _ => False) w w1 ∧ (∀ k, v'.ownBlock = some k → w.heap.size ≤ k) := by
      refine ⟨by simpa using hown1, (Keeps.alloc w _).trans (hk1.mono fun k _ hk => ?_), fun k hk => ?_⟩
      · simp only [Value.ownBlock, Option.some.injEq] at hk; omega
      · rcases hfr with hf | ⟨g, hg, hh⟩
        · rw [hf] at hk; simp only [Value.ownBlock, Option.some.injEq] at hk; omega
        · rw [hg] at hk; simp only [Option.some.injEq] at hk; omega
    have Hend := Lib.hid hend; clear hend hown1 hk1 hfr
    go_wp2
    go_ret
    exact ⟨_, rfl, Hend.out⟩
set_option maxRecDepth 100000 in
set_option maxHeartbeats 400000 in
/-- slices.Clone (cloneEv): a row of its own that reads as the one that was given. -/
theorem cloneEv_any (w : World) (v : Value) (n : Nat) (xs : List Value) (hr : Reads w 5 v n xs) (h1 : ∀ u ∈ xs, u.oneCell' = true) (hn : n ≤ 1000000000000) :
    Calls Try.prog 44 #[v] w fun e w' => ∃ v', e = .returned v' ∧ w'.ownsRow 0 34 5 v' n xs ∧ Keeps (fun _ => False) w w' ∧ (∀ k, v'.ownBlock = some k → w.heap.size ≤ k) := by
  obtain ⟨i0, hi, hz0, hz1, hz2⟩ := info_parts info_tEvent
  have hr' := hr
  obtain ⟨ad, c, rfl, hnc, hl, hnone, hcells⟩ := hr'
  clear hcells
  have heq := fun (wx : World) (ad : Option Addr) (l c : Nat) => Lib.run_eql_slice_nil (P := Try.prog) wx 35 _ ad l c 0 0 Try.underlying35
  rcases ad with _ | a
  · obtain rfl := hnone rfl
    obtain rfl : n = 0 := by omega
    obtain rfl : xs = [] := List.eq_nil_of_length_eq_zero (by simpa using hl)
    have hr0 := Lib.hid hr; clear hr
    go_enter Try.func44, Try.ntmps44
    go_wp2
    go_ret
    exact ⟨_, rfl, World.ownsRow_nil _ _ _ _, Keeps.refl _ _, by simp [Value.ownBlock]⟩
  · have Hr := Lib.hid hr; clear hr
    have Hl := Lib.hid hl; clear hl; have Hnone := Lib.hid hnone; clear hnone; have H1 := Lib.hid h1; clear h1
    go_enter Try.func44, Try.ntmps44
    go_wp2_with (at_builtin; refine wpList_append_row rfl (.tmp 5) (.tmp 6) 35 rfl 0 34 i0 _ 5 40 Try.underlying35 hi hz0 hz1 hz2 rfl (by decide) _ 0 [] rfl (World.ownsRow_lit w #[] 0 (by omega) (by unfold maxLen; omega) rfl) _ n xs rfl (Hr.out.keeps (Keeps.alloc (S := fun _ => False) _ _) (by simp)) H1.out (by unfold maxLen; omega) (by omega) (by omega) ?_)
    intro v' w1 hown1 hk1 hfr
    have hend : w1.ownsRow 0 34 5 v' n xs ∧ Keeps (fun _ => False) w w1 ∧ (∀ k, v'.ownBlock = some k → w.heap.size ≤ k) := by
      refine ⟨by simpa using hown1, (Keeps.alloc w _).trans (hk1.mono fun k _ hk => ?_), fun k hk => ?_⟩
      · simp only [Value.ownBlock, Option.some.injEq] at hk; omega
      · rcases hfr with hf | ⟨g, hg, hh⟩
        · rw [hf] at hk; simp only [Value.ownBlock, Option.some.injEq] at hk; omega
        · rw [hg] at hk; simp only [Option.some.injEq] at hk; omega
    have Hend := Lib.hid hend; clear hend hown1 hk1 hfr
    go_wp2
    go_ret
    exact ⟨_, rfl, Hend.out⟩
/-- A list of events, as an object: its block, its tranches, its events. -/
structure DL (W : World) (B : Nat) (t : Tm) (vt : Value) (L : List Ev) (v : Value) : Prop where
  blk : W.heap[B]? = some (.cells #[.int .i64 t.limit, vt, .int .i64 t.cyc, .int .i64 t.due, .int .i64 t.minFixed, .int .i64 t.minPart, .int .i64 t.start, v] 66 (0, 0))
  trs : W.ownsRow 0 61 2 vt t.trs.length (t.trs.flatMap Tn.cells)
  row : W.ownsRow 0 34 5 v L.length (L.flatMap Ev.cells)
theorem halloc_at (w : World) (o : Obj) {i : Nat} (h : i = w.heap.size) : (w.alloc o).heap[i]? = some o := by subst h; exact heap_alloc_new w o
def NewPost (t : Tm) (w : World) (e : Ending) (w' : World) : Prop := ∃ B vt, e = .returned (.pointer (some ⟨B, 0, none⟩)) ∧ DL w' B t vt [] (.slice none 0 0) ∧ Keeps (fun _ => False) w w' ∧ w.heap.size ≤ B ∧ (∀ g, vt.ownBlock = some g → w.heap.size ≤ g)
set_option maxRecDepth 100000 in
set_option maxHeartbeats 1600000 in
theorem datNew_any (t : Tm) (v : Value) (w : World) (hr : Reads w 2 v t.trs.length (t.trs.flatMap Tn.cells)) (hl : t.trs.length ≤ 1000000) :
    Calls Try.prog 10 #[t.val v] w (NewPost t w) := by
  simp only [Tm.val]
  have Hr := Lib.hid hr; clear hr
  go_enter Try.func10, Try.ntmps10
  go_wp2_with fail
  refine (cloneTr_any _ v t.trs.length _ (Hr.out.keeps (S := fun _ => False) (by (repeat (first | exact Keeps.refl _ _ | exact Keeps.alloc _ _ | exact Keeps.drew _ | exact Keeps.drewN _ _ | refine Keeps.trans_drew ?_ | refine Keeps.trans_drewN ?_ | refine Keeps.trans_alloc ?_))) (by simp)) (fun u hu => Tn.one _ u hu) (by omega)).mono ?_
  rintro e w1 ⟨vt, rfl, hrow, hk1, hnew⟩
  have hb := box_new hk1 (by simp)
  have b0 := cell_of_cells hb 0
  have b1 := cell_of_cells hb 1
  have b2 := cell_of_cells hb 2
  have b3 := cell_of_cells hb 3
  have b4 := cell_of_cells hb 4
  have b5 := cell_of_cells hb 5
  have b6 := cell_of_cells hb 6
  have f1 := free_of_cells hb 1
  have lb := lt_of_block hb
  simp at hnew
  have hrow2 := (Keeps.setCell (S := fun i => i = w.heap.size) w1 ⟨w.heap.size, 1, none⟩ vt rfl).row hrow (fun g hg e => by have := hnew g hg; omega)
  obtain ⟨adt, ct, rfl, _, _⟩ := ownsRow_shape hrow
  have Hrow := Lib.hid hrow; clear hrow; have Hk1 := Lib.hid hk1; clear hk1; have Hnew := Lib.hid hnew; clear hnew; have Hb := Lib.hid hb; clear hb; have Hrow2 := Lib.hid hrow2; clear hrow2
  go_wp2_with fail
  go_ret
  exact ⟨_, _, rfl, ⟨halloc_at _ _ (by simp), Hrow2.out.alloc _, World.ownsRow_nil _ _ _ _⟩, ((Keeps.nt (by (repeat (first | exact Keeps.refl _ _ | exact Keeps.alloc _ _ | exact Keeps.drew _ | exact Keeps.drewN _ _ | refine Keeps.trans_drew ?_ | refine Keeps.trans_drewN ?_ | refine Keeps.trans_alloc ?_))) Hk1.out).trans (Keeps.setCell _ _ _ (.inr (Nat.le_refl _)))).trans (Keeps.alloc _ _), by omega, fun g hg => by have := Hnew.out g hg; omega⟩
end Go.Proofs.Ytelhlbplbkglkaa
