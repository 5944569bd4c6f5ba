/- The walks of the dated layer: All, On, From, Len, Fork; of a nil list. -/
import Derived.Test.YtelhlbplbkglkaaDated4
namespace Go.Proofs.Ytelhlbplbkglkaa
open Go.RowKit
theorem GivesEv.up {w : World} {o : Obj} {M : List Ev} {e : Ending} {w' : World} (h : GivesEv (w.alloc o) M e w') : GivesEv w M e w' := by
  obtain ⟨v, he, hr, hk, hg⟩ := h
  exact ⟨v, he, hr, (Keeps.alloc _ _).trans (hk.mono (by simp)), fun g h' => by have := hg g h'; simp at this; omega⟩
set_option maxRecDepth 100000 in
set_option maxHeartbeats 800000 in
theorem datAll_any (B : Nat) (t : Tm) (vt v : Value) (L : List Ev) (w : World) (h : DL w B t vt L v) (hl : L.length ≤ 1000000) : Calls Try.prog 14 #[(.pointer (some ⟨B, 0, none⟩))] w (GivesEv w L) := by
  have hf : L.filter Want.all.p = L := List.filter_eq_self.2 fun _ _ => rfl
  have hs := datSome_any .all B B t vt v L w h hl trivial (lt_of_block h.blk)
  simp only [Want.fv] at hs
  rw [hf] at hs
  clear h
  have Hs := Lib.hid hs; clear hs; have Hf := Lib.hid hf; clear hf
  go_enter Try.func14, Try.ntmps14
  go_wp2_with fail
  refine Hs.out.mono ?_
  rintro e w1 ⟨v1, rfl, hrd, hk, hown⟩
  obtain ⟨ad1, c1, rfl, _⟩ := id hrd
  have HP := Lib.hid (⟨_, rfl, hrd, hk, hown⟩ : GivesEv _ _ (.returned (.slice ad1 _ c1)) w1)
  clear hrd hk hown
  go_wp2_with fail
  go_ret
  exact HP.out
set_option maxRecDepth 100000 in
set_option maxHeartbeats 800000 in
theorem datOn_any (B : Nat) (d : Int) (t : Tm) (vt v : Value) (L : List Ev) (w : World) (h : DL w B t vt L v) (hl : L.length ≤ 1000000) : Calls Try.prog 15 #[(.pointer (some ⟨B, 0, none⟩)), .int .i64 d] w (GivesEv w (L.filter (Want.on d).p)) := by
  have hs := datSome_any (.on d) B w.heap.size t vt v L (w.alloc (.cells #[.int .i64 d] 3)) (h.keep (Keeps.alloc _ _)) hl (cell_of_cells (heap_alloc_new w _) 0) (by simp)
  simp only [Want.fv] at hs
  clear h
  have Hs := Lib.hid hs; clear hs
  go_enter Try.func15, Try.ntmps15
  go_wp2_with fail
  refine Hs.out.mono ?_
  rintro e w1 ⟨v1, rfl, hrd, hk, hown⟩
  obtain ⟨ad1, c1, rfl, _⟩ := id hrd
  have HP := Lib.hid (⟨_, rfl, hrd, hk, hown⟩ : GivesEv _ _ (.returned (.slice ad1 _ c1)) w1)
  clear hrd hk hown
  go_wp2_with fail
  go_ret
  exact GivesEv.up HP.out
set_option maxRecDepth 100000 in
set_option maxHeartbeats 800000 in
theorem datFrom_any (B : Nat) (d : Int) (t : Tm) (vt v : Value) (L : List Ev) (w : World) (h : DL w B t vt L v) (hl : L.length ≤ 1000000) : Calls Try.prog 16 #[(.pointer (some ⟨B, 0, none⟩)), .int .i64 d] w (GivesEv w (L.filter (Want.frm d).p)) := by
  have hs := datSome_any (.frm d) B w.heap.size t vt v L (w.alloc (.cells #[.int .i64 d] 3)) (h.keep (Keeps.alloc _ _)) hl (cell_of_cells (heap_alloc_new w _) 0) (by simp)
  simp only [Want.fv] at hs
  clear h
  have Hs := Lib.hid hs; clear hs
  go_enter Try.func16, Try.ntmps16
  go_wp2_with fail
  refine Hs.out.mono ?_
  rintro e w1 ⟨v1, rfl, hrd, hk, hown⟩
  obtain ⟨ad1, c1, rfl, _⟩ := id hrd
  have HP := Lib.hid (⟨_, rfl, hrd, hk, hown⟩ : GivesEv _ _ (.returned (.slice ad1 _ c1)) w1)
  clear hrd hk hown
  go_wp2_with fail
  go_ret
  exact GivesEv.up HP.out
set_option maxRecDepth 100000 in
set_option maxHeartbeats 800000 in
theorem datLen_any (B : Nat) (t : Tm) (vt v : Value) (L : List Ev) (w : World) (h : DL w B t vt L v) : Calls Try.prog 21 #[(.pointer (some ⟨B, 0, none⟩))] w fun e w' => e = .returned (.int .i64 (L.length : Nat)) ∧ w = w' := by
  obtain ⟨hb, _, hr⟩ := h
  obtain ⟨ad, c, rfl, _, _⟩ := ownsRow_shape hr
  have b7 := cell_of_cells hb 7
  have hbl := lt_of_block hb
  have Hb := Lib.hid hb; clear hb; have Hr := Lib.hid hr; clear hr
  go_enter Try.func21, Try.ntmps21
  go_wp2
  go_ret
  exact ⟨rfl, rfl⟩
set_option maxRecDepth 100000 in
set_option maxHeartbeats 800000 in
theorem datAll_nil (w : World) : Calls Try.prog 14 #[.pointer none] w fun e w' => e = .returned (.slice none 0 0) ∧ Keeps (fun _ => False) w w' := by
  go_enter Try.func14, Try.ntmps14
  go_wp2
  go_ret
  exact ⟨rfl, by (repeat (first | exact Keeps.refl _ _ | exact Keeps.alloc _ _ | exact Keeps.drew _ | exact Keeps.drewN _ _ | refine Keeps.trans_drew ?_ | refine Keeps.trans_drewN ?_ | refine Keeps.trans_alloc ?_))⟩
set_option maxRecDepth 100000 in
set_option maxHeartbeats 800000 in
theorem datOn_nil (d : Int) (w : World) : Calls Try.prog 15 #[.pointer none, .int .i64 d] w fun e w' => e = .returned (.slice none 0 0) ∧ Keeps (fun _ => False) w w' := by
  go_enter Try.func15, Try.ntmps15
  go_wp2
  go_ret
  exact ⟨rfl, by (repeat (first | exact Keeps.refl _ _ | exact Keeps.alloc _ _ | exact Keeps.drew _ | exact Keeps.drewN _ _ | refine Keeps.trans_drew ?_ | refine Keeps.trans_drewN ?_ | refine Keeps.trans_alloc ?_))⟩
set_option maxRecDepth 100000 in
set_option maxHeartbeats 800000 in
theorem datFrom_nil (d : Int) (w : World) : Calls Try.prog 16 #[.pointer none, .int .i64 d] w fun e w' => e = .returned (.slice none 0 0) ∧ Keeps (fun _ => False) w w' := by
  go_enter Try.func16, Try.ntmps16
  go_wp2
  go_ret
  exact ⟨rfl, by (repeat (first | exact Keeps.refl _ _ | exact Keeps.alloc _ _ | exact Keeps.drew _ | exact Keeps.drewN _ _ | refine Keeps.trans_drew ?_ | refine Keeps.trans_drewN ?_ | refine Keeps.trans_alloc ?_))⟩
set_option maxRecDepth 100000 in
set_option maxHeartbeats 800000 in
theorem datLen_nil (w : World) : Calls Try.prog 21 #[.pointer none] w fun e w' => e = .returned (.int .i64 0) ∧ w = w' := by
  go_enter Try.func21, Try.ntmps21
  go_wp2
  go_ret
  exact ⟨rfl, rfl⟩
set_option maxRecDepth 100000 in
set_option maxHeartbeats 800000 in
theorem datFork_nil (w : World) : Calls Try.prog 19 #[.pointer none] w fun e w' => e = .returned (.pointer none) ∧ w = w' := by
  go_enter Try.func19, Try.ntmps19
  go_wp2
  go_ret
  exact ⟨rfl, rfl⟩
set_option maxRecDepth 100000 in
set_option maxHeartbeats 800000 in
theorem datAdd_nil (e : Ev) (w : World) : Calls Try.prog 13 #[.pointer none, e.agg] w fun x w' => x = .returned (.int .i64 2) ∧ Keeps (fun _ => False) w w' := by
  obtain ⟨ki, da, tr, am, re⟩ := e
  simp only [Ev.agg]
  go_enter Try.func13, Try.ntmps13
  go_wp2
  go_ret
  exact ⟨rfl, by (repeat (first | exact Keeps.refl _ _ | exact Keeps.alloc _ _ | exact Keeps.drew _ | exact Keeps.drewN _ _ | refine Keeps.trans_drew ?_ | refine Keeps.trans_drewN ?_ | refine Keeps.trans_alloc ?_))⟩
def fkS (B : Nat) (li cy du mf mp st : Int) (vt v : Value) (w : World) : Prop :=
  w.cell? ⟨B, 0, none⟩ = some (.int .i64 li) ∧ w.cell? ⟨B, 1, none⟩ = some vt ∧ w.cell? ⟨B, 2, none⟩ = some (.int .i64 cy) ∧ w.cell? ⟨B, 3, none⟩ = some (.int .i64 du) ∧ w.cell? ⟨B, 4, none⟩ = some (.int .i64 mf) ∧ w.cell? ⟨B, 5, none⟩ = some (.int .i64 mp) ∧ w.cell? ⟨B, 6, none⟩ = some (.int .i64 st) ∧ w.cell? ⟨B, 7, none⟩ = some v
theorem fkS.of {B : Nat} {li cy du mf mp st : Int} {vt v : Value} {w : World} (hb : w.heap[B]? = some (.cells #[.int .i64 li, vt, .int .i64 cy, .int .i64 du, .int .i64 mf, .int .i64 mp, .int .i64 st, v] 66 (0, 0))) : fkS B li cy du mf mp st vt v w :=
  ⟨cell_of_cells hb 0, cell_of_cells hb 1, cell_of_cells hb 2, cell_of_cells hb 3, cell_of_cells hb 4, cell_of_cells hb 5, cell_of_cells hb 6, cell_of_cells hb 7⟩
theorem fkS.keep {B : Nat} {li cy du mf mp st : Int} {vt v : Value} {w w' : World} (h : fkS B li cy du mf mp st vt v w) (hk : Keeps (fun _ => False) w w') : fkS B li cy du mf mp st vt v w' := by
  obtain ⟨h0, h1, h2, h3, h4, h5, h6, h7⟩ := h
  exact ⟨(hk.cell (cell_lt h0) (by simp)).trans h0, (hk.cell (cell_lt h1) (by simp)).trans h1, (hk.cell (cell_lt h2) (by simp)).trans h2, (hk.cell (cell_lt h3) (by simp)).trans h3, (hk.cell (cell_lt h4) (by simp)).trans h4, (hk.cell (cell_lt h5) (by simp)).trans h5, (hk.cell (cell_lt h6) (by simp)).trans h6, (hk.cell (cell_lt h7) (by simp)).trans h7⟩
def ForkPost (t : Tm) (vt : Value) (L : List Ev) (w : World) (e : Ending) (w' : World) : Prop := ∃ B' v', e = .returned (.pointer (some ⟨B', 0, none⟩)) ∧ DL w' B' t vt L v' ∧ Keeps (fun _ => False) w w' ∧ w.heap.size ≤ B' ∧ (∀ g, v'.ownBlock = some g → w.heap.size ≤ g)
set_option maxRecDepth 100000 in
set_option maxHeartbeats 1600000 in
theorem datFork_any (B : Nat) (t : Tm) (vt v : Value) (L : List Ev) (w : World) (h : DL w B t vt L v) (hl : L.length ≤ 1000000) : Calls Try.prog 19 #[(.pointer (some ⟨B, 0, none⟩))] w (ForkPost t vt L w) := by
  obtain ⟨hb, ht, hr⟩ := h
  obtain ⟨adt, ct, rfl, _, _⟩ := ownsRow_shape ht
  have hS : ∀ W, Keeps (fun _ => False) w W → fkS B t.limit t.cyc t.due t.minFixed t.minPart t.start (.slice adt t.trs.length ct) v W := fun W hW => fkS.of (box_old hb hW (by simp))
  have hcl := fun W (hW : Keeps (fun _ => False) w W) => cloneEv_any W v L.length (L.flatMap Ev.cells) (Reads.of_owns (hr.of_keeps hW)) (fun u hu => Ev.one _ u hu) (by omega)
  have hbl := lt_of_block hb
  have Hb := Lib.hid hb; clear hb; have Ht := Lib.hid ht; clear ht; have Hr := Lib.hid hr; clear hr; have HS := Lib.hid hS; clear hS; have Hcl := Lib.hid hcl; clear hcl
  go_enter Try.func19, Try.ntmps19
  go_wp2_with fail
  refine wp_region_mixw (fkS B t.limit t.cyc t.due t.minFixed t.minPart t.start (.slice adt t.trs.length ct) v) (.take 0 (.take 1 (.take 2 (.take 3 (.take 4 (.take 5 (.take 6 (.take 7 (.move 8 (.take 9 (.move 10 (.take 11 .done)))))))))))) (by kernel_rfl) (by kernel_rfl) ?_ ?_
  · exact HS.out _ (Keeps.drew _)
  intro w1 hs1 hk1
  repeat (first
    | (refine mix_skip rfl (by rfl) ?_; try simp only [Act.put, List.setIfInBounds_toArray, List.set_cons_zero, List.set_cons_succ])
    | (refine mix_skipm rfl (by rfl) ?_; try simp only [Act.put, List.setIfInBounds_toArray, List.set_cons_zero, List.set_cons_succ])
    | (refine mix_take (v := ?_) rfl (by rfl) ?_ ?_; rotate_left; (· intro w' hSw; unfold fkS at hSw; go_simp; (try with_reducible rfl)); rotate_right; try simp only [Act.put, List.setIfInBounds_toArray, List.set_cons_zero, List.set_cons_succ]))
  refine mix_move rfl (fun K hK => ?_)
  go_simp
  go_at_call 44
  ((with_reducible refine (Hcl.out w1 hk1).mono ?_); rintro e w2 ⟨v2, rfl, hrow2, hk2, hnew2⟩; dsimp only)
  refine hK.out _ _ (by exact HS.out _ (hk1.trans (hk2.mono (by simp)))) ?_
  clear hK K
  try simp only [Act.put, List.setIfInBounds_toArray, List.set_cons_zero, List.set_cons_succ]
  have hs2 := HS.out _ (hk1.trans (hk2.mono (by simp)))
  have hk := Keeps.nt hk1 hk2
  have ht2 := Ht.out.of_keeps hk
  obtain ⟨ad2, c2, rfl, _, _⟩ := ownsRow_shape hrow2
  have hpost : ForkPost t (.slice adt t.trs.length ct) L w (.returned (.pointer (some ⟨w2.heap.size, 0, none⟩))) (w2.alloc (.cells #[.int .i64 t.limit, .slice adt t.trs.length ct, .int .i64 t.cyc, .int .i64 t.due, .int .i64 t.minFixed, .int .i64 t.minPart, .int .i64 t.start, .slice ad2 L.length c2] 66)) :=
    ⟨_, _, rfl, ⟨heap_alloc_new _ _, ht2.alloc _, hrow2.alloc _⟩, Keeps.nt hk (Keeps.alloc _ _), hk.size, fun g hg => by have := hnew2 g hg; have := hk1.size; omega⟩
  have Hpost := Lib.hid hpost; clear hpost
  clear hs1 hk1 hk2 hrow2 hnew2 hk ht2
  have Hs2 := Lib.hid hs2; clear hs2
  repeat (first
    | (refine mix_skip rfl (by rfl) ?_; try simp only [Act.put, List.setIfInBounds_toArray, List.set_cons_zero, List.set_cons_succ])
    | (refine mix_skipm rfl (by rfl) ?_; try simp only [Act.put, List.setIfInBounds_toArray, List.set_cons_zero, List.set_cons_succ])
    | (refine mix_take (v := ?_) rfl (by rfl) ?_ ?_; rotate_left; (· intro w' hSw; unfold fkS at hSw; go_simp; (try with_reducible rfl)); rotate_right; try simp only [Act.put, List.setIfInBounds_toArray, List.set_cons_zero, List.set_cons_succ]))
  refine mix_move rfl (fun K hK => ?_)
  go_simp
  refine hK.out _ _ (by exact fkS.keep Hs2.out (Keeps.alloc _ _)) ?_
  clear hK K
  try simp only [Act.put, List.setIfInBounds_toArray, List.set_cons_zero, List.set_cons_succ]
  repeat (first
    | (refine mix_skip rfl (by rfl) ?_; try simp only [Act.put, List.setIfInBounds_toArray, List.set_cons_zero, List.set_cons_succ])
    | (refine mix_skipm rfl (by rfl) ?_; try simp only [Act.put, List.setIfInBounds_toArray, List.set_cons_zero, List.set_cons_succ])
    | (refine mix_take (v := ?_) rfl (by rfl) ?_ ?_; rotate_left; (· intro w' hSw; unfold fkS at hSw; go_simp; (try with_reducible rfl)); rotate_right; try simp only [Act.put, List.setIfInBounds_toArray, List.set_cons_zero, List.set_cons_succ]))
  refine mix_done ?_
  go_wp2_with fail
  go_ret
  exact Hpost.out
end Go.Proofs.Ytelhlbplbkglkaa
