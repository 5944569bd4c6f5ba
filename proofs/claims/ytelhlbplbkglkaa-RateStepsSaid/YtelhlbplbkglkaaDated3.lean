/- The walks of the dated layer: Add. -/
import Derived.Test.YtelhlbplbkglkaaDated2
import Derived.Test.YtelhlbplbkglkaaEvent
import Derived.Test.YtelhlbplbkglkaaMix2
namespace Go.Proofs.Ytelhlbplbkglkaa
open Go.RowKit
/-- What is answered to a new event. -/
def addErr (t : Tm) (L : List Ev) (e : Ev) : Int := if ¬ evErr t e = 0 then evErr t e else if 2000 ≤ L.length then 14 else 0
def addL (t : Tm) (L : List Ev) (e : Ev) : List Ev := if addErr t L e = 0 then putL L e else L
theorem DL.keep {W W' : World} {B : Nat} {t : Tm} {vt v : Value} {L : List Ev} (h : DL W B t vt L v) (hk : Keeps (fun _ => False) W W') : DL W' B t vt L v := ⟨box_old h.blk hk (by simp), hk.row h.trs (by simp), hk.row h.row (by simp)⟩
def AddPost (B : Nat) (t : Tm) (vt v : Value) (L : List Ev) (e : Ev) (w : World) (x : Ending) (w' : World) : Prop :=
  x = .returned (.int .i64 (addErr t L e)) ∧ ∃ v', DL w' B t vt (addL t L e) v' ∧ Keeps (fun i => i = B ∨ v.ownBlock = some i) w w' ∧ (v'.ownBlock = v.ownBlock ∨ ∃ g, v'.ownBlock = some g ∧ w.heap.size ≤ g)
def adS (B E : Nat) (li cy du mf mp st : Int) (vt v : Value) (ki da tr am re : Int) (w : World) : Prop :=
  w.cell? ⟨B, 0, none⟩ = some (.int .i64 li) ∧ w.cell? ⟨B, 1, none⟩ = some vt ∧ w.cell? ⟨B, 2, none⟩ = some (.int .i64 cy) ∧ w.cell? ⟨B, 3, none⟩ = some (.int .i64 du) ∧ w.cell? ⟨B, 4, none⟩ = some (.int .i64 mf) ∧ w.cell? ⟨B, 5, none⟩ = some (.int .i64 mp) ∧ w.cell? ⟨B, 6, none⟩ = some (.int .i64 st) ∧ w.cell? ⟨B, 7, none⟩ = some v ∧
  w.cell? ⟨E, 0, none⟩ = some (.int .i64 ki) ∧ w.cell? ⟨E, 1, none⟩ = some (.int .i64 da) ∧ w.cell? ⟨E, 2, none⟩ = some (.int .i64 tr) ∧ w.cell? ⟨E, 3, none⟩ = some (.int .i64 am) ∧ w.cell? ⟨E, 4, none⟩ = some (.int .i64 re)
theorem adS.of {B E : Nat} {li cy du mf mp st : Int} {vt v : Value} {ki da tr am re : Int} {w : World} (hb : w.heap[B]? = some (.cells #[.int .i64 li, vt, .int .i64 cy, .int .i64 du, .int .i64 mf, .int .i64 mp, .int .i64 st, v] 66 (0, 0))) (he : w.heap[E]? = some (.cells #[.int .i64 ki, .int .i64 da, .int .i64 tr, .int .i64 am, .int .i64 re] 34 (0, 0))) : adS B E li cy du mf mp st vt v ki da tr am re w :=
  ⟨cell_of_cells hb 0, cell_of_cells hb 1, cell_of_cells hb 2, cell_of_cells hb 3, cell_of_cells hb 4, cell_of_cells hb 5, cell_of_cells hb 6, cell_of_cells hb 7, cell_of_cells he 0, cell_of_cells he 1, cell_of_cells he 2, cell_of_cells he 3, cell_of_cells he 4⟩
theorem adS.keep {B E : Nat} {li cy du mf mp st : Int} {vt v : Value} {ki da tr am re : Int} {w w' : World} (h : adS B E li cy du mf mp st vt v ki da tr am re w) {S : Nat → Prop} (hk : Keeps S w w') (hB : ¬ S B) (hE : ¬ S E) : adS B E li cy du mf mp st vt v ki da tr am re w' := by
  obtain ⟨h0, h1, h2, h3, h4, h5, h6, h7, e0, e1, e2, e3, e4⟩ := h
  exact ⟨(hk.cell (cell_lt h0) hB).trans h0, (hk.cell (cell_lt h1) hB).trans h1, (hk.cell (cell_lt h2) hB).trans h2, (hk.cell (cell_lt h3) hB).trans h3, (hk.cell (cell_lt h4) hB).trans h4, (hk.cell (cell_lt h5) hB).trans h5, (hk.cell (cell_lt h6) hB).trans h6, (hk.cell (cell_lt h7) hB).trans h7,
    (hk.cell (cell_lt e0) hE).trans e0, (hk.cell (cell_lt e1) hE).trans e1, (hk.cell (cell_lt e2) hE).trans e2, (hk.cell (cell_lt e3) hE).trans e3, (hk.cell (cell_lt e4) hE).trans e4⟩
/-- Nothing is added. -/
theorem AddPost.none {B : Nat} {t : Tm} {vt v : Value} {L : List Ev} {e : Ev} {w w' : World} (h : DL w B t vt L v) {z : Int} (hz : addErr t L e = z) (h0 : z ≠ 0) (hk : Keeps (fun _ => False) w w') : AddPost B t vt v L e w (.returned (.int .i64 z)) w' := by
  refine ⟨by rw [hz], v, ?_, hk.mono (by simp), .inl rfl⟩
  unfold addL
  rw [if_neg (by rw [hz]; exact h0)]
  exact h.keep hk
set_option maxRecDepth 100000 in
set_option maxHeartbeats 1600000 in
theorem datAdd_any (B : Nat) (t : Tm) (vt v : Value) (L : List Ev) (e : Ev) (w : World) (h : DL w B t vt L v) (hl : L.length ≤ 1000000) (ht : t.trs.length ≤ 1000000) : Calls Try.prog 13 #[(.pointer (some ⟨B, 0, none⟩)), e.agg] w (AddPost B t vt v L e w) := by
  have hno := fun (z : Int) (W : World) (hz : addErr t L e = z) (h0 : z ≠ 0) hk => AddPost.none (w' := W) h hz h0 hk
  obtain ⟨z, hz⟩ : ∃ z, evErr t e = z := ⟨_, rfl⟩
  have hev0 := fun W (hW : Keeps (fun _ => False) w W) ad c (hvt : vt = .slice ad t.trs.length c) => evRight_any t e ad c W (Reads.of_owns (by rw [← hvt]; exact h.trs.of_keeps hW)) ht
  obtain ⟨p, hp⟩ : ∃ p, placeOf e.day L L.length = p := ⟨_, rfl⟩
  have hpl0 := fun W (hW : Keeps (fun _ => False) w W) ad c (hv : v = .slice ad L.length c) => datPlace_any e.day L ad c W (Reads.of_owns (by rw [← hv]; exact h.row.of_keeps hW)) hl
  have hpn : p ≤ L.length := by rw [← hp]; exact placeOf_le _ _ _
  have hput : putL L e = L.take p ++ [e] ++ L.drop p := by unfold putL; rw [hp]
  have hadd : addErr t L e = if ¬ z = 0 then z else if 2000 ≤ L.length then 14 else 0 := by unfold addErr; rw [hz]
  simp only [hz, hp] at hev0 hpl0
  have hins0 := fun W (hW : Keeps (fun _ => False) w W) => insEv_any W v p L.length (L.flatMap Ev.cells) (h.row.of_keeps hW) hpn e.cells.toArray (by simp [Ev.cells]) (by intro u hu; exact Ev.one [e] u (by simpa using hu)) (Ev.one L) (by omega)
  obtain ⟨hblk, htrs, hrow⟩ := h
  have hBv := ownsRow_ne hrow hblk (by decide)
  have hBt := ownsRow_ne htrs hblk (by decide)
  obtain ⟨adt, ct, hvt, _, _⟩ := ownsRow_shape htrs
  obtain ⟨ad, cap, hvs, hcap, _⟩ := ownsRow_shape hrow
  have hev := fun W hW => hev0 W hW adt ct hvt
  have hpl := fun W hW => hpl0 W hW ad cap hvs
  have hall : ∀ v' w', addErr t L e = 0 → w'.ownsRow 0 34 5 v' (L.length + 1) ((L.flatMap Ev.cells).take (p * 5) ++ e.cells ++ (L.flatMap Ev.cells).drop (p * 5)) → Keeps (fun i => v.ownBlock = some i) w w' → (v'.ownBlock = v.ownBlock ∨ ∃ g, v'.ownBlock = some g ∧ w.heap.size ≤ g) →
      AddPost B t vt v L e w (.returned (.int .i64 0)) (w'.setCell ⟨B, 7, none⟩ v') := fun v' w' h0 ho hk hf => by
    have hb' := box_old hblk hk hBv
    have ht' := hk.row htrs (fun g hg e' => rows_ne htrs hrow (by decide) hg e')
    have hbl := lt_of_block hblk
    have nB : v'.ownBlock ≠ some B := fun e' => by
      rcases hf with h1 | ⟨g, h1, h2⟩
      · exact hBv (by rw [← h1]; exact e')
      · rw [h1] at e'; simp only [Option.some.injEq] at e'; omega
    refine ⟨by rw [h0], v', ⟨?_, ?_, ?_⟩, (hk.mono fun i _ e' => .inr e').trans (Keeps.setCell _ _ _ (.inl (.inl rfl))), hf⟩
    · rw [heap_setCell_same _ _ 7 _ _ v' hb']; rfl
    · exact (Keeps.setCell (S := fun i => i = B) w' ⟨B, 7, none⟩ v' rfl).row ht' (fun g hg e' => hBt (by rw [hg, e']))
    · unfold addL
      rw [if_pos h0, putL_length, hput, List.flatMap_append, List.flatMap_append, ← flat_takek Ev.cells_length, ← flat_dropk Ev.cells_length]
      exact (Keeps.setCell (S := fun i => i = B) w' ⟨B, 7, none⟩ v' rfl).row (by simpa using ho) (fun g hg e' => nB (by rw [hg, e']))
  obtain ⟨n, hn⟩ : ∃ n, L.length = n := ⟨_, rfl⟩
  obtain ⟨nt, hnt⟩ : ∃ n, t.trs.length = n := ⟨_, rfl⟩
  rw [hn] at hvs hpl hins0 hall hpn hcap hl hadd
  rw [hnt] at hvt hev
  obtain ⟨li, cy, du, mf, mp, st, T⟩ := t
  obtain ⟨ki, da, tr, am, re⟩ := e
  subst hvt hvs
  simp only [Tm.val, Ev.agg, Ev.cells, List.toList_toArray] at hev hpl hins0 hblk hall ⊢
  have c0 := cell_of_cells hblk 0
  have c6 := cell_of_cells hblk 6
  have hbl := lt_of_block hblk
  have hnE : ¬ (Value.slice ad n cap).ownBlock = some w.heap.size := fun e => by have := own_lt hrow e; omega
  clear hev0 hpl0 hput hp hn hnt hBt htrs hrow
  have hS : ∀ W, Keeps (fun _ => False) (w.alloc (.cells #[.int .i64 ki, .int .i64 da, .int .i64 tr, .int .i64 am, .int .i64 re] 34)) W → adS B w.heap.size li cy du mf mp st (.slice adt nt ct) (.slice ad n cap) ki da tr am re W := fun W hW =>
    adS.of (box_old (box_alloc hblk _) hW (by simp)) (box_old (heap_alloc_new w _) hW (by simp))
  have Hno := Lib.hid hno; clear hno; have Hz := Lib.hid hz; clear hz; have Hev := Lib.hid hev; clear hev; have Hpl := Lib.hid hpl; clear hpl; have Hins0 := Lib.hid hins0; clear hins0; have Hall := Lib.hid hall; clear hall; have Hadd := Lib.hid hadd; clear hadd; have HS := Lib.hid hS; clear hS; have Hblk := Lib.hid hblk; clear hblk
  clear c0 c6
  go_enter Try.func13, Try.ntmps13
  go_wp2_with fail
  refine wp_region_mixw (adS B w.heap.size li cy du mf mp st (.slice adt nt ct) (.slice ad n cap) ki da tr am re) (.take 0 (.take 1 (.take 2 (.take 3 (.take 4 (.move 5 (.take 6 .done))))))) (by kernel_rfl) (by kernel_rfl) ?_ ?_
  · exact HS.out _ (Keeps.drew _)
  intro w1 hs1 hk1
  repeat (first
    | (refine mix_skip rfl (by rfl) ?_; try simp only [Act.put, List.setIfInBounds_toArray, List.set_cons_zero, List.set_cons_succ])
    | (refine mix_skipm rfl (by rfl) ?_; try simp only [Act.put, List.setIfInBounds_toArray, List.set_cons_zero, List.set_cons_succ])
    | (refine mix_take (v := ?_) rfl (by rfl) ?_ ?_; rotate_left; (· intro w' hSw; unfold adS at hSw; go_simp; (try with_reducible rfl)); rotate_right; try simp only [Act.put, List.setIfInBounds_toArray, List.set_cons_zero, List.set_cons_succ]))
  refine mix_move rfl (fun K hK => ?_)
  go_simp
  go_at_call 36
  ((with_reducible refine (Hev.out _ ((Keeps.alloc _ _).trans (hk1.mono (by simp)))).mono ?_); rintro e w2 ⟨rfl, hk2⟩; dsimp only)
  refine hK.out _ _ (by exact adS.keep hs1 hk2 (by simp) (by simp)) ?_
  clear hK K
  try simp only [Act.put, List.setIfInBounds_toArray, List.set_cons_zero, List.set_cons_succ]
  have hs2 := adS.keep hs1 hk2 (by simp) (by simp)
  have hkA : Keeps (fun _ => False) (w.alloc (.cells #[.int .i64 ki, .int .i64 da, .int .i64 tr, .int .i64 am, .int .i64 re] 34)) w2 := hk1.trans (hk2.mono (by simp))
  have hkw : Keeps (fun _ => False) w w2 := (Keeps.alloc _ _).trans (hkA.mono (by simp))
  have HkA := Lib.hid hkA; clear hkA; have Hkw := Lib.hid hkw; clear hkw
  clear hs1 hk1 hk2
  repeat (first
    | (refine mix_skip rfl (by rfl) ?_; try simp only [Act.put, List.setIfInBounds_toArray, List.set_cons_zero, List.set_cons_succ])
    | (refine mix_skipm rfl (by rfl) ?_; try simp only [Act.put, List.setIfInBounds_toArray, List.set_cons_zero, List.set_cons_succ])
    | (refine mix_take (v := ?_) rfl (by rfl) ?_ ?_; rotate_left; (· intro w' hSw; unfold adS at hSw; go_simp; (try with_reducible rfl)); rotate_right; try simp only [Act.put, List.setIfInBounds_toArray, List.set_cons_zero, List.set_cons_succ]))
  refine mix_done ?_
  by_cases hz0 : z = 0
  · subst hz0
    have c7 : w2.cell? ⟨B, 7, none⟩ = some (.slice ad n cap) := hs2.2.2.2.2.2.2.2.1
    have lB := cell_lt c7
    by_cases hfull : 2000 ≤ n
    · have h14 := Hadd.out
      simp only [not_true_eq_false, if_false, if_pos hfull] at h14
      have hfI : (2000 : Int) ≤ (n : Int) := by omega
      have hpost := Hno.out 14 w2 h14 (by decide) Hkw.out
      have H14 := Lib.hid h14; clear h14; have Hpost := Lib.hid hpost; clear hpost; have Hs2 := Lib.hid hs2; clear hs2
      go_wp2_with fail
      go_ret
      exact Hpost.out
    · have h00 := Hadd.out
      simp only [not_true_eq_false, if_false, if_neg hfull] at h00
      have hfI : ¬ (2000 : Int) ≤ (n : Int) := by omega
      have hpl2 := Hpl.out w2 Hkw.out
      have H00 := Lib.hid h00; clear h00; have Hpl2 := Lib.hid hpl2; clear hpl2
      have HS2 := Lib.hid hs2; clear hs2
      go_wp2_with fail
      refine wp_region_mixy (adS B w.heap.size li cy du mf mp st (.slice adt nt ct) (.slice ad n cap) ki da tr am re) 17 (.take 0 (.take 1 (.take 2 (.take 3 (.take 4 (.take 5 (.take 6 (.take 7 (.take 8 (.take 9 (.take 10 (.take 12 (.fork 11 (.move 13 (.move 14 (.move 15 (.move 16 (.move 17 .done))))) 13 (.move 11 (.move 14 (.move 15 (.move 16 (.move 17 .done)))))))))))))))))) (by kernel_rfl) (by kernel_rfl) ?_ ?_
      · exact HS2.out.keep (Keeps.drew (S := fun _ => False) _) (by simp) (by simp)
      intro w3 hs3 hk3
      have hkw3 : Keeps (fun _ => False) w w3 := Hkw.out.trans (hk3.mono (by simp))
      have hE3 := box_old (box_old (heap_alloc_new w _) HkA.out (by simp)) hk3 (by simp)
      have Hkw3 := Lib.hid hkw3; clear hkw3; have HE3 := Lib.hid hE3; clear hE3
      clear hk3
      repeat (first
        | (refine mix_skip rfl (by rfl) ?_; try simp only [Act.put, List.setIfInBounds_toArray, List.set_cons_zero, List.set_cons_succ])
        | (refine mix_skipm rfl (by rfl) ?_; try simp only [Act.put, List.setIfInBounds_toArray, List.set_cons_zero, List.set_cons_succ])
        | (refine mix_take (v := ?_) rfl (by rfl) ?_ ?_; rotate_left; (· intro w' hSw; unfold adS at hSw; go_simp; (try with_reducible rfl)); rotate_right; try simp only [Act.put, List.setIfInBounds_toArray, List.set_cons_zero, List.set_cons_succ]))
      refine mix_fork ?_ ?_ hs3
      · skip
        refine mix_move rfl (fun K hK => ?_)
        go_simp
        go_at_call 38
        ((with_reducible refine (Hpl.out w3 Hkw3.out).mono ?_); rintro e w33 ⟨rfl, rfl⟩; dsimp only)
        refine hK.out _ _ (by exact hs3) ?_
        clear hK K
        try simp only [Act.put, List.setIfInBounds_toArray, List.set_cons_zero, List.set_cons_succ]
        repeat (first
          | (refine mix_skip rfl (by rfl) ?_; try simp only [Act.put, List.setIfInBounds_toArray, List.set_cons_zero, List.set_cons_succ])
          | (refine mix_skipm rfl (by rfl) ?_; try simp only [Act.put, List.setIfInBounds_toArray, List.set_cons_zero, List.set_cons_succ])
          | (refine mix_take (v := ?_) rfl (by rfl) ?_ ?_; rotate_left; (· intro w' hSw; unfold adS at hSw; go_simp; (try with_reducible rfl)); rotate_right; try simp only [Act.put, List.setIfInBounds_toArray, List.set_cons_zero, List.set_cons_succ]))
        refine mix_move rfl (fun K hK => ?_)
        go_simp
        refine hK.out _ _ (by exact adS.keep hs3 (Keeps.alloc (S := fun _ => False) w3 _) (by simp) (by simp)) ?_
        clear hK K
        try simp only [Act.put, List.setIfInBounds_toArray, List.set_cons_zero, List.set_cons_succ]
        repeat (first
          | (refine mix_skip rfl (by rfl) ?_; try simp only [Act.put, List.setIfInBounds_toArray, List.set_cons_zero, List.set_cons_succ])
          | (refine mix_skipm rfl (by rfl) ?_; try simp only [Act.put, List.setIfInBounds_toArray, List.set_cons_zero, List.set_cons_succ])
          | (refine mix_take (v := ?_) rfl (by rfl) ?_ ?_; rotate_left; (· intro w' hSw; unfold adS at hSw; go_simp; (try with_reducible rfl)); rotate_right; try simp only [Act.put, List.setIfInBounds_toArray, List.set_cons_zero, List.set_cons_succ]))
        refine mix_move rfl (fun K hK => ?_)
        go_simp
        go_at_call 37
        ((with_reducible refine (Hins0.out w3 Hkw3.out).mono ?_); rintro e w4 ⟨v4, rfl, hrow4, hk4, hf4⟩; dsimp only)
        have hb4 := box_old (box_old Hblk.out Hkw3.out (by simp)) hk4 hBv
        have hE4 := box_old HE3.out hk4 hnE
        have hs4 := adS.of hb4 hE4
        refine hK.out _ _ (by exact hs4) ?_
        clear hK K
        try simp only [Act.put, List.setIfInBounds_toArray, List.set_cons_zero, List.set_cons_succ]
        have hpost := Hall.out v4 w4 H00.out hrow4 ((Hkw3.out.mono (fun _ _ h => h.elim)).trans (hk4.mono fun _ _ h => .inl h)) (hf4.imp id fun ⟨g, h1, h2⟩ => ⟨g, h1, by have := Hkw3.out.size; omega⟩)
        obtain ⟨ad4, c4, rfl, _, _⟩ := ownsRow_shape hrow4
        have fB := free_of_cells hb4 7
        have cB := cell_of_cells hb4 7
        have Hpost := Lib.hid hpost; clear hpost
        clear hrow4 hk4 hf4 hb4 hE4
        repeat (first
          | (refine mix_takem (v := ?_) rfl (by rfl) ?_ ?_; rotate_left; (· intro w' hSw; unfold adS at hSw; go_simp; (try with_reducible rfl)); rotate_right; try simp only [Act.put, List.setIfInBounds_toArray, List.set_cons_zero, List.set_cons_succ]))
        refine mix_last rfl (fun K hK => ?_)
        go_simp
        refine hK.out _ _ ?_
        clear hK K
        try simp only [Act.put, List.setIfInBounds_toArray, List.set_cons_zero, List.set_cons_succ]
        refine mix_done ?_
        go_wp2_with fail
        go_ret
        exact Hpost.out
      · skip
        refine mix_move rfl (fun K hK => ?_)
        go_simp
        refine hK.out _ _ (by exact adS.keep hs3 (Keeps.alloc (S := fun _ => False) w3 _) (by simp) (by simp)) ?_
        clear hK K
        try simp only [Act.put, List.setIfInBounds_toArray, List.set_cons_zero, List.set_cons_succ]
        repeat (first
          | (refine mix_skip rfl (by rfl) ?_; try simp only [Act.put, List.setIfInBounds_toArray, List.set_cons_zero, List.set_cons_succ])
          | (refine mix_skipm rfl (by rfl) ?_; try simp only [Act.put, List.setIfInBounds_toArray, List.set_cons_zero, List.set_cons_succ])
          | (refine mix_take (v := ?_) rfl (by rfl) ?_ ?_; rotate_left; (· intro w' hSw; unfold adS at hSw; go_simp; (try with_reducible rfl)); rotate_right; try simp only [Act.put, List.setIfInBounds_toArray, List.set_cons_zero, List.set_cons_succ]))
        refine mix_move rfl (fun K hK => ?_)
        go_simp
        go_at_call 38
        ((with_reducible refine (Hpl.out (w3.alloc (.cells #[.int .i64 ki, .int .i64 da, .int .i64 tr, .int .i64 am, .int .i64 re] 34)) (Hkw3.out.trans (Keeps.alloc _ _))).mono ?_); rintro e w33 ⟨rfl, rfl⟩; dsimp only)
        refine hK.out _ _ (by exact adS.keep hs3 (Keeps.alloc (S := fun _ => False) w3 _) (by simp) (by simp)) ?_
        clear hK K
        try simp only [Act.put, List.setIfInBounds_toArray, List.set_cons_zero, List.set_cons_succ]
        repeat (first
          | (refine mix_skip rfl (by rfl) ?_; try simp only [Act.put, List.setIfInBounds_toArray, List.set_cons_zero, List.set_cons_succ])
          | (refine mix_skipm rfl (by rfl) ?_; try simp only [Act.put, List.setIfInBounds_toArray, List.set_cons_zero, List.set_cons_succ])
          | (refine mix_take (v := ?_) rfl (by rfl) ?_ ?_; rotate_left; (· intro w' hSw; unfold adS at hSw; go_simp; (try with_reducible rfl)); rotate_right; try simp only [Act.put, List.setIfInBounds_toArray, List.set_cons_zero, List.set_cons_succ]))
        refine mix_move rfl (fun K hK => ?_)
        go_simp
        go_at_call 37
        ((with_reducible refine (Hins0.out w3 Hkw3.out).mono ?_); rintro e w4 ⟨v4, rfl, hrow4, hk4, hf4⟩; dsimp only)
        have hb4 := box_old (box_old Hblk.out Hkw3.out (by simp)) hk4 hBv
        have hE4 := box_old HE3.out hk4 hnE
        have hs4 := adS.of hb4 hE4
        refine hK.out _ _ (by exact hs4) ?_
        clear hK K
        try simp only [Act.put, List.setIfInBounds_toArray, List.set_cons_zero, List.set_cons_succ]
        have hpost := Hall.out v4 w4 H00.out hrow4 ((Hkw3.out.mono (fun _ _ h => h.elim)).trans (hk4.mono fun _ _ h => .inl h)) (hf4.imp id fun ⟨g, h1, h2⟩ => ⟨g, h1, by have := Hkw3.out.size; omega⟩)
        obtain ⟨ad4, c4, rfl, _, _⟩ := ownsRow_shape hrow4
        have fB := free_of_cells hb4 7
        have cB := cell_of_cells hb4 7
        have Hpost := Lib.hid hpost; clear hpost
        clear hrow4 hk4 hf4 hb4 hE4
        repeat (first
          | (refine mix_takem (v := ?_) rfl (by rfl) ?_ ?_; rotate_left; (· intro w' hSw; unfold adS at hSw; go_simp; (try with_reducible rfl)); rotate_right; try simp only [Act.put, List.setIfInBounds_toArray, List.set_cons_zero, List.set_cons_succ]))
        refine mix_last rfl (fun K hK => ?_)
        go_simp
        refine hK.out _ _ ?_
        clear hK K
        try simp only [Act.put, List.setIfInBounds_toArray, List.set_cons_zero, List.set_cons_succ]
        refine mix_done ?_
        go_wp2_with fail
        go_ret
        exact Hpost.out
  · have hzz := Hadd.out
    rw [if_pos hz0] at hzz
    have hzI : (z != 0) = true := by simp [hz0]
    have hpost := Hno.out z w2 hzz hz0 Hkw.out
    have Hpost := Lib.hid hpost; clear hpost; have Hzz := Lib.hid hzz; clear hzz; have Hs2 := Lib.hid hs2; clear hs2
    go_wp2_with fail
    go_ret
    exact Hpost.out
end Go.Proofs.Ytelhlbplbkglkaa
