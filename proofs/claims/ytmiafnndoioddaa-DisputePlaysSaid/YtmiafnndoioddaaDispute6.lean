/- The walks of the dispute layer, more: the reference's End. -/
import Derived.Test.YtmiafnndoioddaaDispute5
namespace Go.Proofs.Ytmiafnndoioddaa
open Go.RowKit
theorem rEnd_end {w w1 : World} {b k n cap' : Nat} {v : Value} {g' : Nat} {xr xt xd xa : Int} {L : List Disp} {o : Obj} (hx : L[k]? = some ⟨xr, xt, xd, xa, 1⟩) (hn : n = L.length) (hb : w.heap[b]? = some (.cells #[v] 46 (0, 0)))
    (hown1 : w1.ownsRow 0 32 5 (.slice (some ⟨g', 0, none⟩) n cap') n (L.flatMap Disp.cells)) (hk1 : Keeps (fun k => (Value.slice none 0 0).ownBlock = some k) (w.alloc o) w1)
    (hf1 : (Value.slice (some ⟨g', 0, none⟩) n cap').ownBlock = (Value.slice none 0 0).ownBlock ∨ ∃ g, (Value.slice (some ⟨g', 0, none⟩) n cap').ownBlock = some g ∧ (w.alloc o).heap.size ≤ g) :
    (w1.cell? ⟨b, 0, none⟩ = some v ∧ w1.frozen? ⟨b, 0, none⟩ = false ∧ ¬ b = g' ∧ ¬ w.heap.size = g' ∧ ¬ w.heap.size = b ∧ w.heap.size < w1.heap.size ∧ w1.heap[w.heap.size]? = some o ∧ ∀ j, w1.cell? ⟨g', k * 5 + j, none⟩ = (L.flatMap Disp.cells)[k * 5 + j]? ∨ ¬ j < 5) ∧
    ∀ s, let W := ((w1.setCell ⟨b, 0, none⟩ (.slice (some ⟨g', 0, none⟩) n cap')).setCell ⟨g', k * 5 + 4, none⟩ (.int .i64 s))
      W.heap[b]? = some (.cells #[.slice (some ⟨g', 0, none⟩) n cap'] 46 (0, 0)) ∧ W.ownsRow 0 32 5 (.slice (some ⟨g', 0, none⟩) n cap') n ((L.set k ⟨xr, xt, xd, xa, s⟩).flatMap Disp.cells) ∧
        Keeps (Foot b v) w W ∧ ∀ k, Foot b (.slice (some ⟨g', 0, none⟩) n cap') k → Foot b v k ∨ w.heap.size ≤ k := by
  subst hn
  have hbl := lt_of_block hb
  have hk0 : Keeps (fun _ => False) w w1 := (Keeps.alloc _ _).trans (hk1.mono (fun k _ h => by simp [Value.ownBlock] at h))
  have hg' : w.heap.size < g' := by
    rcases hf1 with h | ⟨g, hg, h⟩
    · simp [Value.ownBlock] at h
    · simp only [Value.ownBlock, Option.some.injEq] at hg; simp only [World.size_alloc] at h; omega
  have hb1 : w1.heap[b]? = some (.cells #[v] 46 (0, 0)) := by rw [hk0.block b hbl (by simp)]; exact hb
  have hne : ¬ b = g' := by omega
  have hs1 : w.heap.size < w1.heap.size := by have := hk1.size; simp only [World.size_alloc] at this; omega
  refine ⟨⟨cell_of_cells hb1 0, free_of_cells hb1 0, hne, by omega, by omega, hs1, ?_, fun j => ?_⟩, fun s => ?_⟩
  · rw [hk1.block _ (by simp) (by simp [Value.ownBlock])]; exact heap_alloc_new w o
  · by_cases hj : j < 5
    · left
      have hk := lt_of_get hx
      rw [owns_elem Disp.cells_length hown1 hx j hj, flat_get Disp.cells_length hx hj]
    · exact .inr hj
  · have r1 := ownsRow_setCell_other hown1 (a := ⟨b, 0, none⟩) (fun e => hne (by simp [Value.ownBlock] at e; exact e.symm)) (.slice (some ⟨g', 0, none⟩) L.length cap')
    have b2 := heap_setCell_same _ _ 0 _ _ (.slice (some ⟨g', 0, none⟩) L.length cap') hb1
    refine ⟨?_, owns_store Disp.cells_length r1 hx 4 (by decide) rfl, ?_, ?_⟩
    · rw [heap_setCell_other _ ⟨g', k * 5 + 4, none⟩ b _ hne]; exact b2
    · exact ((hk0.mono (by simp)).trans (Keeps.setCell _ _ _ (.inl (.inl rfl)))).trans (Keeps.setCell _ _ _ (.inr (show w.heap.size ≤ g' by omega)))
    · rintro k (rfl | hk)
      · exact .inl (.inl rfl)
      · simp only [Value.ownBlock, Option.some.injEq] at hk; right; omega
theorem rEnd_one {w W : World} {b n cap' g' : Nat} {v : Value} {zs : List Value}
    (h : W.heap[b]? = some (.cells #[.slice (some ⟨g', 0, none⟩) n cap'] 46 (0, 0)) ∧ W.ownsRow 0 32 5 (.slice (some ⟨g', 0, none⟩) n cap') n zs ∧ Keeps (Foot b v) w W ∧ ∀ k, Foot b (.slice (some ⟨g', 0, none⟩) n cap') k → Foot b v k ∨ w.heap.size ≤ k)
    (h1 : ¬ w.heap.size = g') (h2 : ¬ w.heap.size = b) (j : Nat) (u : Value) :
    (W.setCell ⟨w.heap.size, j, none⟩ u).heap[b]? = some (.cells #[.slice (some ⟨g', 0, none⟩) n cap'] 46 (0, 0)) ∧ (W.setCell ⟨w.heap.size, j, none⟩ u).ownsRow 0 32 5 (.slice (some ⟨g', 0, none⟩) n cap') n zs ∧
      Keeps (Foot b v) w (W.setCell ⟨w.heap.size, j, none⟩ u) ∧ ∀ k, Foot b (.slice (some ⟨g', 0, none⟩) n cap') k → Foot b v k ∨ w.heap.size ≤ k := by
  obtain ⟨a1, a2, a3, a4⟩ := h
  refine ⟨?_, ownsRow_setCell_other a2 (fun e => h1 (by simp [Value.ownBlock] at e; exact e.symm)) _, a3.trans (Keeps.setCell _ _ _ (.inr (Nat.le_refl _))), a4⟩
  rw [heap_setCell_other _ ⟨w.heap.size, j, none⟩ b _ (fun e => h2 e.symm)]; exact a1
theorem rEnd_five {w W : World} {b n cap' g' : Nat} {v : Value} {zs : List Value}
    (h : W.heap[b]? = some (.cells #[.slice (some ⟨g', 0, none⟩) n cap'] 46 (0, 0)) ∧ W.ownsRow 0 32 5 (.slice (some ⟨g', 0, none⟩) n cap') n zs ∧ Keeps (Foot b v) w W ∧ ∀ k, Foot b (.slice (some ⟨g', 0, none⟩) n cap') k → Foot b v k ∨ w.heap.size ≤ k)
    (h1 : ¬ w.heap.size = g') (h2 : ¬ w.heap.size = b) (u0 u1 u2 u3 u4 : Value) :
    let W' := ((((W.setCell ⟨w.heap.size, 0, none⟩ u0).setCell ⟨w.heap.size, 1, none⟩ u1).setCell ⟨w.heap.size, 2, none⟩ u2).setCell ⟨w.heap.size, 3, none⟩ u3).setCell ⟨w.heap.size, 4, none⟩ u4
    W'.heap[b]? = some (.cells #[.slice (some ⟨g', 0, none⟩) n cap'] 46 (0, 0)) ∧ W'.ownsRow 0 32 5 (.slice (some ⟨g', 0, none⟩) n cap') n zs ∧ Keeps (Foot b v) w W' ∧ ∀ k, Foot b (.slice (some ⟨g', 0, none⟩) n cap') k → Foot b v k ∨ w.heap.size ≤ k :=
  rEnd_one (rEnd_one (rEnd_one (rEnd_one (rEnd_one h h1 h2 0 u0) h1 h2 1 u1) h1 h2 2 u2) h1 h2 3 u3) h1 h2 4 u4
set_option maxRecDepth 100000 in
set_option maxHeartbeats 1600000 in
theorem rdispEnd_ok (k : Nat) (lost : Bool) (v : Value) (L : List Disp) (x : Disp) (b : Nat) (w : World) (hx : L[k]? = some x) (hst : x.state = 1)
    (ln : L.length ≤ 2000) (hb : w.heap[b]? = some (.cells #[v] 46 (0, 0))) (hown : w.ownsRow 0 32 5 v L.length (L.flatMap Disp.cells)) :
    Calls Try.prog 14 #[(.pointer (some ⟨b, 0, none⟩)), .int .i64 (k + 1), .bool lost] w fun e w' => e = .returned (.tuple #[(x.ended lost).val, .int .i64 0]) ∧
      ∃ v', w'.heap[b]? = some (.cells #[v'] 46 (0, 0)) ∧ w'.ownsRow 0 32 5 v' L.length ((L.set k (x.ended lost)).flatMap Disp.cells) ∧ Keeps (Foot b v) w w' ∧ ∀ k, Foot b v' k → Foot b v k ∨ w.heap.size ≤ k := by
  have hk := lt_of_get hx
  obtain ⟨i0, hi, hz0, hz1, hz2⟩ := info_parts info_tDisp
  obtain ⟨g, cap, rfl, hgl⟩ := owns_some hown (by omega)
  obtain ⟨xr, xt, xd, xa, xs⟩ := x
  simp only at hst
  subst hst
  have c0 : w.cell? ⟨b, 0, none⟩ = some (.slice (some ⟨g, 0, none⟩) L.length cap) := cell_of_cells hb 0
  have hbl : b < w.heap.size := lt_of_block hb
  have x4 : w.cell? ⟨g, k * 5 + 4, none⟩ = some (.int .i64 1) := owns_elem Disp.cells_length hown hx 4 (by decide)
  have hgot : ∀ j, j < 5 → (L.flatMap Disp.cells)[k * 5 + j]? = (Disp.cells ⟨xr, xt, xd, xa, 1⟩)[j]? := fun j hj => flat_get Disp.cells_length hx hj
  have Hown := Lib.hid hown; clear hown; have Hb := Lib.hid hb; clear hb; have Hx := Lib.hid hx; clear hx; have Hgot := Lib.hid hgot; clear hgot
  cases lost
  · have tw := setCell_twice
    go_enter Try.func14, Try.ntmps14
    go_wp2_with (at_builtin; refine wpList_append_row rfl (.const (.slice none 0 0)) (.tmp 35) 40 rfl 0 32 i0 _ 5 40 Try.underlying40 hi hz0 hz1 hz2 rfl (by decide) _ 0 [] rfl (World.ownsRow_nil _ _ _ _) _ L.length (L.flatMap Disp.cells) rfl (Reads.of_owns (Hown.out.alloc _)) (Disp.one L) (by unfold maxLen; omega) (by omega) (by omega) ?_; intro v1 w1 hown1 hk1 hf1; simp only [Nat.zero_add, List.nil_append] at hown1; obtain ⟨g1, cap1, rfl, hg1⟩ := owns_some hown1 (by omega); have y4 := hown1.frozenAt (k * 5 + 4); obtain ⟨⟨d0, e0, n1, n2, n3, n4, ho, hcs⟩, hend⟩ := rEnd_end Hx.out rfl Hb.out hown1 hk1 hf1; have z0 := ((hcs 0).resolve_right (by decide)).trans (Hgot.out 0 (by decide)); have z1 := ((hcs 1).resolve_right (by decide)).trans (Hgot.out 1 (by decide)); have z2 := ((hcs 2).resolve_right (by decide)).trans (Hgot.out 2 (by decide)); have z3 := ((hcs 3).resolve_right (by decide)).trans (Hgot.out 3 (by decide)); have z4 := ((hcs 4).resolve_right (by decide)).trans (Hgot.out 4 (by decide)); simp only [Disp.cells, Nat.add_zero, List.getElem?_cons_zero, List.getElem?_cons_succ] at z0 z1 z2 z3 z4; have o0 := cell_of_cells ho 0; have o1 := cell_of_cells ho 1; have o2 := cell_of_cells ho 2; have o3 := cell_of_cells ho 3; have o4 := cell_of_cells ho 4; have of := free_of_cells ho; have Hend := Lib.hid hend; clear hown1 hk1 hf1 hcs ho hend)
    exact bodyPost_ret (v := .tuple #[.agg #[.int .i64 xr, .int .i64 xt, .int .i64 xd, .int .i64 xa, .int .i64 3], .int .i64 0]) (by simp [results, Try.results14, go_sem, n2, n3, n4, o0, o1, o2, o3, o4]) rfl ⟨rfl, _, rEnd_five (Hend.out 3) n2 n3 _ _ _ _ _⟩
  · have tw := setCell_twice
    go_enter Try.func14, Try.ntmps14
    go_wp2_with (at_builtin; refine wpList_append_row rfl (.const (.slice none 0 0)) (.tmp 35) 40 rfl 0 32 i0 _ 5 40 Try.underlying40 hi hz0 hz1 hz2 rfl (by decide) _ 0 [] rfl (World.ownsRow_nil _ _ _ _) _ L.length (L.flatMap Disp.cells) rfl (Reads.of_owns (Hown.out.alloc _)) (Disp.one L) (by unfold maxLen; omega) (by omega) (by omega) ?_; intro v1 w1 hown1 hk1 hf1; simp only [Nat.zero_add, List.nil_append] at hown1; obtain ⟨g1, cap1, rfl, hg1⟩ := owns_some hown1 (by omega); have y4 := hown1.frozenAt (k * 5 + 4); obtain ⟨⟨d0, e0, n1, n2, n3, n4, ho, hcs⟩, hend⟩ := rEnd_end Hx.out rfl Hb.out hown1 hk1 hf1; have z0 := ((hcs 0).resolve_right (by decide)).trans (Hgot.out 0 (by decide)); have z1 := ((hcs 1).resolve_right (by decide)).trans (Hgot.out 1 (by decide)); have z2 := ((hcs 2).resolve_right (by decide)).trans (Hgot.out 2 (by decide)); have z3 := ((hcs 3).resolve_right (by decide)).trans (Hgot.out 3 (by decide)); have z4 := ((hcs 4).resolve_right (by decide)).trans (Hgot.out 4 (by decide)); simp only [Disp.cells, Nat.add_zero, List.getElem?_cons_zero, List.getElem?_cons_succ] at z0 z1 z2 z3 z4; have o0 := cell_of_cells ho 0; have o1 := cell_of_cells ho 1; have o2 := cell_of_cells ho 2; have o3 := cell_of_cells ho 3; have o4 := cell_of_cells ho 4; have of := free_of_cells ho; have Hend := Lib.hid hend; clear hown1 hk1 hf1 hcs ho hend)
    exact bodyPost_ret (v := .tuple #[.agg #[.int .i64 xr, .int .i64 xt, .int .i64 xd, .int .i64 xa, .int .i64 2], .int .i64 0]) (by simp [results, Try.results14, go_sem, n2, n3, n4, o0, o1, o2, o3, o4]) rfl ⟨rfl, _, rEnd_five (Hend.out 2) n2 n3 _ _ _ _ _⟩
theorem rdispEnd_any (ref : Int) (lost : Bool) (L : List Disp) (v : Value) (b : Nat) (w : World) (h : RefAt w b v L) :
    Calls Try.prog 14 #[(.pointer (some ⟨b, 0, none⟩)), .int .i64 ref, .bool lost] w (RefPost w b v (dEnd L ref lost) (.tuple #[(dEnded L ref lost).val, .int .i64 (dEndErr L ref)])) := by
  obtain ⟨hl, hh, hd⟩ := h.ok
  have stay : ∀ n : Int, n ≠ 0 → dEndErr L ref = n → ∀ e w', e = .returned (.tuple #[.agg #[.int .i64 0, .int .i64 0, .int .i64 0, .int .i64 0, .int .i64 0], .int .i64 n]) ∧ Keeps (fun _ => False) w w' →
      RefPost w b v (dEnd L ref lost) (.tuple #[(dEnded L ref lost).val, .int .i64 (dEndErr L ref)]) e w' := by
    rintro n hn he e w' ⟨rfl, hk⟩
    have h1 : dEnd L ref lost = L := by unfold dEnd; rw [if_neg (by omega)]
    have h2 : dEnded L ref lost = Disp.zero := by unfold dEnded; rw [if_neg (by omega)]
    rw [h1, h2, he]
    exact ⟨rfl, v, h.keeps hk (by simp), hk.mono (by simp), fun k hk => .inl hk⟩
  obtain ⟨ad, cap, rfl, _, _⟩ := ownsRow_shape h.row
  by_cases hr : ref < 1 ∨ (L.length : Int) < ref
  · exact (rdispEnd_12 ref lost b L.length cap ad w hl h.blk hr).mono (stay 12 (by decide) (by unfold dEndErr; rw [if_pos hr]))
  obtain ⟨k, rfl⟩ : ∃ k : Nat, ref = k + 1 := ⟨(ref - 1).toNat, by omega⟩
  have hk : k < L.length := by omega
  obtain ⟨g, cap', hv, hg⟩ := owns_some h.row (by omega)
  injection hv with e1 e2 e3
  subst e1; subst e3
  have hx : L[k]? = some L[k] := List.getElem?_eq_getElem hk
  by_cases hs : L[k].state = 1
  · have hA := dEnd_at hx hs lost
    have hok := dEnd_ok h.ok (k + 1) lost
    refine (rdispEnd_ok k lost _ L _ b w hx hs hl h.blk h.row).mono ?_
    rintro e w' ⟨rfl, v', hb, hr, hk, hf⟩
    rw [hA.2.2] at hok
    refine ⟨by rw [hA.1, hA.2.1], v', ⟨hb, ?_, ?_⟩, hk, hf⟩
    · rw [hA.2.2]; simpa using hr
    · rw [hA.2.2]; exact hok
  · have he : dEndErr L (k + 1) = 13 := by
      unfold dEndErr
      rw [if_neg hr, show ((k : Int) + 1 - 1).toNat = k from by omega, hx]
      simp [hs]
    have x4 : w.cell? ⟨g, k * 5 + 4, none⟩ = some (.int .i64 L[k].state) := owns_elem Disp.cells_length h.row hx 4 (by decide)
    exact (rdispEnd_13 k lost b g L.length cap _ w hl hk h.blk x4 (by simpa using hs)).mono (stay 13 (by decide) he)
end Go.Proofs.Ytmiafnndoioddaa
