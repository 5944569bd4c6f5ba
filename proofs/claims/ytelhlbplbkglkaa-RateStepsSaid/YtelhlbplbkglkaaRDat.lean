/- The document's dated layer: Put. -/
import Derived.Test.YtelhlbplbkglkaaDated5
import Derived.Test.YtelhlbplbkglkaaBx
namespace Go.Proofs.Ytelhlbplbkglkaa
open Go.RowKit
/-- What is handed out: a row of the call's own. -/
def MakesEv (w : World) (M : List Ev) (e : Ending) (w' : World) : Prop := ∃ v', e = .returned v' ∧ w'.ownsRow 0 34 5 v' M.length (M.flatMap Ev.cells) ∧ Fresh w w' v'
theorem MakesEv.gives {w : World} {M : List Ev} {e : Ending} {w' : World} (h : MakesEv w M e w') : GivesEv w M e w' := by
  obtain ⟨v, he, hr, hk, hg⟩ := h
  exact ⟨v, he, Reads.of_owns hr, hk, hg⟩
theorem Fresh.up {w w' : World} {o : Obj} {v : Value} (h : Fresh (w.alloc o) w' v) : Fresh w w' v := ⟨(Keeps.alloc w o).nt h.1, fun g hg => by have := h.2 g hg; simp at this; omega⟩
def bxS1 (E : Nat) (ki da tr am re : Int) (g o : Nat) (x : Int) (w : World) : Prop := w.cell? ⟨g, o, none⟩ = some (.int .i64 x) ∧ w.cell? ⟨E, 1, none⟩ = some (.int .i64 da)
set_option maxRecDepth 100000 in
set_option maxHeartbeats 1600000 in
theorem rdatPut_nil (e : Ev) (w : World) : Calls Try.prog 18 #[.slice none 0 0, e.agg] w (MakesEv w (putL [] e)) := by
  obtain ⟨i0, hi, hi0, hi1, hi2⟩ := info_parts info_tEvent
  obtain ⟨ki, da, tr, am, re⟩ := e
  obtain ⟨L, hL⟩ : ∃ L : List Ev, L = [] := ⟨_, rfl⟩
  have hn : L.length = 0 := by rw [hL]; rfl
  have hr : w.ownsRow 0 34 5 (.slice none 0 0) 0 (L.flatMap Ev.cells) := by rw [hL]; exact World.ownsRow_nil _ _ _ _
  have hp : placeOf da L 0 = 0 := by rw [hL]; rfl
  rw [← hL]
  have hbS : ∀ W, Keeps (fun _ => False) (w.alloc (.cells #[.int .i64 ki, .int .i64 da, .int .i64 tr, .int .i64 am, .int .i64 re] 34)) W → bxS w.heap.size ki da tr am re W := fun W hW => bxS.of (box_old (heap_alloc_new w _) hW (by simp))
  have hk : Keeps (fun _ => False) (w.alloc (.cells #[.int .i64 ki, .int .i64 da, .int .i64 tr, .int .i64 am, .int .i64 re] 34)) (w.alloc (.cells #[.int .i64 ki, .int .i64 da, .int .i64 tr, .int .i64 am, .int .i64 re] 34)) := Keeps.refl _ _
  simp only [Ev.agg]
  have Hi := Lib.hid hi; clear hi; have Hi0 := Lib.hid hi0; clear hi0; have Hi1 := Lib.hid hi1; clear hi1; have Hi2 := Lib.hid hi2; clear hi2; have HbS := Lib.hid hbS; clear hbS; have Hn := Lib.hid hn; clear hn; have Hr := Lib.hid hr; clear hr; have Hp := Lib.hid hp; clear hp; have Hk := Lib.hid hk; clear hk; have HL := Lib.hid hL; clear hL
  go_enter Try.func18, Try.ntmps18
  go_wp2
  go_loopw [5] (fun x wx => x = .int .i64 0 ∧ Keeps (fun _ => False) (w.alloc (.cells #[.int .i64 ki, .int .i64 da, .int .i64 tr, .int .i64 am, .int .i64 re] 34)) wx) (fun x _ => (intOf x).toNat)
  case atStart => exact ⟨rfl, Keeps.refl _ _⟩
  case round =>
    obtain ⟨rfl, hk⟩ := hrel
    clear Hk
    have Hk := Lib.hid hk; clear hk
    go_wp2_with fail
    refine wp_region_mixw (bxS w.heap.size ki da tr am re) (.take 0 (.take 1 (.take 2 (.take 3 (.take 4 (.take 5 (.take 6 (.take 7 (.take 8 (.take 9 (.take 10 (.take 11 (.take 12 .done))))))))))))) (by kernel_rfl) (by kernel_rfl) ?_ ?_
    · exact HbS.out _ (Hk.out.nt (Keeps.drew _))
    intro w1 hs1 hk1
    repeat (first
      | (refine mix_skip rfl (by rfl) ?_; try simp only [Act.put, List.setIfInBounds_toArray, List.set_cons_zero, List.set_cons_succ])
      | (refine mix_skipm rfl (by rfl) ?_; try simp only [Act.put, List.setIfInBounds_toArray, List.set_cons_zero, List.set_cons_succ])
      | (refine mix_take (v := ?_) rfl (by rfl) ?_ ?_; rotate_left; (· intro w' hSw; unfold bxS at hSw; go_simp; (try with_reducible rfl)); rotate_right; try simp only [Act.put, List.setIfInBounds_toArray, List.set_cons_zero, List.set_cons_succ]))
    refine mix_done ?_
    have Hk := Lib.hid (Hk.out.nt hk1)
    clear hs1 hk1
    go_wp2_with fail
    have hkn : 0 ≤ 0 := by omega
    have hlm : 0 + 1 + (0) ≤ 1000001 := by omega
    have hkI : (0 : Int) ≤ (0 : Int) := by omega
    have hkI0 : (0 : Int) ≤ (0 : Int) := by omega
    have hkI2 : (0 : Int) ≤ (0 : Int) := by omega
    have hend : ∀ v4 w4, World.ownsRow w4 0 34 5 v4 (0 + 1 + (0)) ((L.take 0).flatMap Ev.cells ++ [.int .i64 ki, .int .i64 da, .int .i64 tr, .int .i64 am, .int .i64 re] ++ (L.drop 0).flatMap Ev.cells) → Fresh (w.alloc (.cells #[.int .i64 ki, .int .i64 da, .int .i64 tr, .int .i64 am, .int .i64 re] 34)) w4 v4 → MakesEv w (putL L ⟨ki, da, tr, am, re⟩) (.returned v4) w4 := by
      intro v4 w4 ho hf
      have hp' := Hp.out
      refine ⟨v4, rfl, ?_, hf.up⟩
      rw [putL_length, Hn.out]
      have hL := Hn.out
      unfold putL
      simp only [hL]
      rw [hp', List.flatMap_append, List.flatMap_append]
      have hm : 0 + 1 + (0) = 0 + 1 := by omega
      rw [hm] at ho
      exact ho
    have hsuf : Reads (w.alloc (.cells #[.int .i64 ki, .int .i64 da, .int .i64 tr, .int .i64 am, .int .i64 re] 34)) 5 (.slice none 0 0) (0) ((L.drop 0).flatMap Ev.cells) := by have h0 : L = [] := List.eq_nil_of_length_eq_zero Hn.out; rw [h0]; exact Reads.nil _ _
    have Hend := Lib.hid hend; clear hend; have Hsuf := Lib.hid hsuf; clear hsuf; have Hkn := Lib.hid hkn; clear hkn
    refine wp_region_mixw (bxS w.heap.size ki da tr am re) (.take 0 (.take 1 (.take 2 (.take 4 (.take 7 (.take 8 (.take 9 (.fork 3 (.move 5 (.move 6 (.move 10 (.take 11 .done)))) 5 (.move 3 (.move 6 (.move 10 (.take 11 .done)))))))))))) (by kernel_rfl) (by kernel_rfl) ?_ ?_
    · exact (HbS.out _ (Hk.out.nt (Keeps.drew _)))
    intro w1 hs1 hk1
    have hkw : Keeps (fun _ => False) (w.alloc (.cells #[.int .i64 ki, .int .i64 da, .int .i64 tr, .int .i64 am, .int .i64 re] 34)) w1 := Hk.out.nt hk1
    have hread := (Reads.of_owns Hr.out).keeps ((Keeps.alloc w _).nt hkw) (by simp)
    have Hkw := Lib.hid hkw; clear hkw; have Hread := Lib.hid hread; clear hread
    clear hs1 hk1
    repeat (first
      | (refine mix_skip rfl (by rfl) ?_; try simp only [Act.put, List.setIfInBounds_toArray, List.set_cons_zero, List.set_cons_succ])
      | (refine mix_skipm rfl (by rfl) ?_; try simp only [Act.put, List.setIfInBounds_toArray, List.set_cons_zero, List.set_cons_succ])
      | (refine mix_take (v := ?_) rfl (by rfl) ?_ ?_; rotate_left; (· intro w' hSw; unfold bxS at hSw; go_simp; (try with_reducible rfl)); rotate_right; try simp only [Act.put, List.setIfInBounds_toArray, List.set_cons_zero, List.set_cons_succ]))
    refine mix_fork ?_ ?_ (HbS.out _ Hkw.out)
    · skip
      refine mix_move rfl (fun K hK => ?_)
      refine step_append_row rfl (.const (.slice none 0 0)) (.tmp 25) 35 rfl 0 34 i0 _ 5 40 Try.underlying35 Hi.out Hi0.out Hi1.out Hi2.out rfl (by decide) (.slice none 0 0) 0 [] rfl (World.ownsRow_nil _ _ _ _) _ 0 _ rfl (Hread.out.preL Ev.cells_length 0 Hkn.out) (Ev.one _) (by unfold maxLen; omega) (by omega) (Nat.zero_le _) ?_
      intro v2 w2 hown2 hk2 hf2
      have hfr2 := ((Fresh.nil _).keep Hkw.out).app hk2 hf2
      have hbs2 := HbS.out _ hfr2.1
      obtain ⟨ad2, c2, rfl, _, _⟩ := ownsRow_shape hown2
      simp only [Nat.zero_add, List.nil_append] at hown2 hfr2 ⊢
      refine hK.out _ _ (by exact hbs2) ?_
      clear hK K
      try simp only [Act.put, List.setIfInBounds_toArray, List.set_cons_zero, List.set_cons_succ]
      have Hown2 := Lib.hid hown2; clear hown2; have Hfr2 := Lib.hid hfr2; clear hfr2; have Hbs2 := Lib.hid hbs2; clear hbs2
      clear hf2 hk2
      repeat (first
        | (refine mix_skip rfl (by rfl) ?_; try simp only [Act.put, List.setIfInBounds_toArray, List.set_cons_zero, List.set_cons_succ])
        | (refine mix_skipm rfl (by rfl) ?_; try simp only [Act.put, List.setIfInBounds_toArray, List.set_cons_zero, List.set_cons_succ])
        | (refine mix_take (v := ?_) rfl (by rfl) ?_ ?_; rotate_left; (· intro w' hSw; unfold bxS at hSw; go_simp; (try with_reducible rfl)); rotate_right; try simp only [Act.put, List.setIfInBounds_toArray, List.set_cons_zero, List.set_cons_succ]))
      refine mix_move rfl (fun K hK => ?_)
      go_simp
      refine hK.out _ _ (by exact HbS.out _ (Hfr2.out.1.nt (Keeps.alloc _ _))) ?_
      clear hK K
      try simp only [Act.put, List.setIfInBounds_toArray, List.set_cons_zero, List.set_cons_succ]
      refine mix_move rfl (fun K hK => ?_)
      refine step_append_row rfl (.tmp 26) (.tmp 28) 35 rfl 0 34 i0 _ 5 40 Try.underlying35 Hi.out Hi0.out Hi1.out Hi2.out rfl (by decide) _ 0 _ rfl (Hown2.out.alloc _) _ 1 _ rfl (Reads.litAt _ _ _ 5 1 _ (by first | rfl | simp) rfl) (by simp [Value.oneCell']) (by unfold maxLen; omega) (by omega) (Nat.zero_le _) ?_
      intro v3 w3 hown3 hk3 hf3
      have hfr3 := (Hfr2.out.keep (Keeps.alloc _ _)).app hk3 hf3
      have hbs3 := HbS.out _ hfr3.1
      obtain ⟨ad3, c3, rfl, _, _⟩ := ownsRow_shape hown3
      refine hK.out _ _ (by exact hbs3) ?_
      clear hK K
      try simp only [Act.put, List.setIfInBounds_toArray, List.set_cons_zero, List.set_cons_succ]
      have Hown3 := Lib.hid hown3; clear hown3; have Hfr3 := Lib.hid hfr3; clear hfr3; have Hbs3 := Lib.hid hbs3; clear hbs3
      clear hf3 hk3
      repeat (first
        | (refine mix_skip rfl (by rfl) ?_; try simp only [Act.put, List.setIfInBounds_toArray, List.set_cons_zero, List.set_cons_succ])
        | (refine mix_skipm rfl (by rfl) ?_; try simp only [Act.put, List.setIfInBounds_toArray, List.set_cons_zero, List.set_cons_succ])
        | (refine mix_take (v := ?_) rfl (by rfl) ?_ ?_; rotate_left; (· intro w' hSw; unfold bxS at hSw; go_simp; (try with_reducible rfl)); rotate_right; try simp only [Act.put, List.setIfInBounds_toArray, List.set_cons_zero, List.set_cons_succ]))
      refine mix_move rfl (fun K hK => ?_)
      refine step_append_row rfl (.tmp 29) (.tmp 32) 35 rfl 0 34 i0 _ 5 40 Try.underlying35 Hi.out Hi0.out Hi1.out Hi2.out rfl (by decide) _ (0 + 1) _ rfl Hown3.out (.slice none 0 0) (0) _ rfl (Hsuf.out.keeps Hfr3.out.1 (by simp)) (Ev.one _) (by unfold maxLen; omega) (by omega) (Nat.zero_le _) ?_
      intro v4 w4 hown4 hk4 hf4
      have hfr4 := Hfr3.out.app hk4 hf4
      have hpost := Hend.out v4 w4 hown4 hfr4
      obtain ⟨ad4, c4, rfl, _, _⟩ := ownsRow_shape hown4
      refine hK.out _ _ (by exact HbS.out _ hfr4.1) ?_
      clear hK K
      try simp only [Act.put, List.setIfInBounds_toArray, List.set_cons_zero, List.set_cons_succ]
      have Hpost := Lib.hid hpost; clear hpost
      clear hown4 hk4 hf4 hfr4
      repeat (first
        | (refine mix_skip rfl (by rfl) ?_; try simp only [Act.put, List.setIfInBounds_toArray, List.set_cons_zero, List.set_cons_succ])
        | (refine mix_skipm rfl (by rfl) ?_; try simp only [Act.put, List.setIfInBounds_toArray, List.set_cons_zero, List.set_cons_succ])
        | (refine mix_take (v := ?_) rfl (by rfl) ?_ ?_; rotate_left; (· intro w' hSw; unfold bxS at hSw; go_simp; (try with_reducible rfl)); rotate_right; try simp only [Act.put, List.setIfInBounds_toArray, List.set_cons_zero, List.set_cons_succ]))
      refine mix_done ?_
      go_wp2_with fail
      go_ret
      exact Hpost.out
    · skip
      refine mix_move rfl (fun K hK => ?_)
      go_simp
      refine hK.out _ _ (by exact HbS.out _ (Hkw.out.nt (Keeps.alloc _ _))) ?_
      clear hK K
      try simp only [Act.put, List.setIfInBounds_toArray, List.set_cons_zero, List.set_cons_succ]
      repeat (first
        | (refine mix_skip rfl (by rfl) ?_; try simp only [Act.put, List.setIfInBounds_toArray, List.set_cons_zero, List.set_cons_succ])
        | (refine mix_skipm rfl (by rfl) ?_; try simp only [Act.put, List.setIfInBounds_toArray, List.set_cons_zero, List.set_cons_succ])
        | (refine mix_take (v := ?_) rfl (by rfl) ?_ ?_; rotate_left; (· intro w' hSw; unfold bxS at hSw; go_simp; (try with_reducible rfl)); rotate_right; try simp only [Act.put, List.setIfInBounds_toArray, List.set_cons_zero, List.set_cons_succ]))
      refine mix_move rfl (fun K hK => ?_)
      refine step_append_row rfl (.const (.slice none 0 0)) (.tmp 25) 35 rfl 0 34 i0 _ 5 40 Try.underlying35 Hi.out Hi0.out Hi1.out Hi2.out rfl (by decide) (.slice none 0 0) 0 [] rfl (World.ownsRow_nil _ _ _ _) _ 0 _ rfl ((Hread.out.preL Ev.cells_length 0 Hkn.out).alloc _) (Ev.one _) (by unfold maxLen; omega) (by omega) (Nat.zero_le _) ?_
      intro v2 w2 hown2 hk2 hf2
      have hfr2 := ((Fresh.nil _).keep (Hkw.out.nt (Keeps.alloc _ _))).app hk2 hf2
      have hbs2 := HbS.out _ hfr2.1
      obtain ⟨ad2, c2, rfl, _, _⟩ := ownsRow_shape hown2
      have hbx2 := Reads.blk (size := 5) (n := 1) (box_old (heap_alloc_new w1 _) hk2 (by simp [Value.ownBlock])) rfl
      simp only [Nat.zero_add, List.nil_append] at hown2 hfr2 hbx2 ⊢
      refine hK.out _ _ (by exact hbs2) ?_
      clear hK K
      try simp only [Act.put, List.setIfInBounds_toArray, List.set_cons_zero, List.set_cons_succ]
      have Hown2 := Lib.hid hown2; clear hown2; have Hfr2 := Lib.hid hfr2; clear hfr2; have Hbs2 := Lib.hid hbs2; clear hbs2; have Hbx2 := Lib.hid hbx2; clear hbx2
      clear hf2 hk2
      repeat (first
        | (refine mix_skip rfl (by rfl) ?_; try simp only [Act.put, List.setIfInBounds_toArray, List.set_cons_zero, List.set_cons_succ])
        | (refine mix_skipm rfl (by rfl) ?_; try simp only [Act.put, List.setIfInBounds_toArray, List.set_cons_zero, List.set_cons_succ])
        | (refine mix_take (v := ?_) rfl (by rfl) ?_ ?_; rotate_left; (· intro w' hSw; unfold bxS at hSw; go_simp; (try with_reducible rfl)); rotate_right; try simp only [Act.put, List.setIfInBounds_toArray, List.set_cons_zero, List.set_cons_succ]))
      refine mix_move rfl (fun K hK => ?_)
      refine step_append_row rfl (.tmp 26) (.tmp 28) 35 rfl 0 34 i0 _ 5 40 Try.underlying35 Hi.out Hi0.out Hi1.out Hi2.out rfl (by decide) _ 0 _ rfl Hown2.out _ 1 _ rfl Hbx2.out (by simp [Value.oneCell']) (by unfold maxLen; omega) (by omega) (Nat.zero_le _) ?_
      intro v3 w3 hown3 hk3 hf3
      have hfr3 := Hfr2.out.app hk3 hf3
      have hbs3 := HbS.out _ hfr3.1
      obtain ⟨ad3, c3, rfl, _, _⟩ := ownsRow_shape hown3
      refine hK.out _ _ (by exact hbs3) ?_
      clear hK K
      try simp only [Act.put, List.setIfInBounds_toArray, List.set_cons_zero, List.set_cons_succ]
      have Hown3 := Lib.hid hown3; clear hown3; have Hfr3 := Lib.hid hfr3; clear hfr3; have Hbs3 := Lib.hid hbs3; clear hbs3
      clear hf3 hk3
      repeat (first
        | (refine mix_skip rfl (by rfl) ?_; try simp only [Act.put, List.setIfInBounds_toArray, List.set_cons_zero, List.set_cons_succ])
        | (refine mix_skipm rfl (by rfl) ?_; try simp only [Act.put, List.setIfInBounds_toArray, List.set_cons_zero, List.set_cons_succ])
        | (refine mix_take (v := ?_) rfl (by rfl) ?_ ?_; rotate_left; (· intro w' hSw; unfold bxS at hSw; go_simp; (try with_reducible rfl)); rotate_right; try simp only [Act.put, List.setIfInBounds_toArray, List.set_cons_zero, List.set_cons_succ]))
      refine mix_move rfl (fun K hK => ?_)
      refine step_append_row rfl (.tmp 29) (.tmp 32) 35 rfl 0 34 i0 _ 5 40 Try.underlying35 Hi.out Hi0.out Hi1.out Hi2.out rfl (by decide) _ (0 + 1) _ rfl Hown3.out (.slice none 0 0) (0) _ rfl (Hsuf.out.keeps Hfr3.out.1 (by simp)) (Ev.one _) (by unfold maxLen; omega) (by omega) (Nat.zero_le _) ?_
      intro v4 w4 hown4 hk4 hf4
      have hfr4 := Hfr3.out.app hk4 hf4
      have hpost := Hend.out v4 w4 hown4 hfr4
      obtain ⟨ad4, c4, rfl, _, _⟩ := ownsRow_shape hown4
      refine hK.out _ _ (by exact HbS.out _ hfr4.1) ?_
      clear hK K
      try simp only [Act.put, List.setIfInBounds_toArray, List.set_cons_zero, List.set_cons_succ]
      have Hpost := Lib.hid hpost; clear hpost
      clear hown4 hk4 hf4 hfr4
      repeat (first
        | (refine mix_skip rfl (by rfl) ?_; try simp only [Act.put, List.setIfInBounds_toArray, List.set_cons_zero, List.set_cons_succ])
        | (refine mix_skipm rfl (by rfl) ?_; try simp only [Act.put, List.setIfInBounds_toArray, List.set_cons_zero, List.set_cons_succ])
        | (refine mix_take (v := ?_) rfl (by rfl) ?_ ?_; rotate_left; (· intro w' hSw; unfold bxS at hSw; go_simp; (try with_reducible rfl)); rotate_right; try simp only [Act.put, List.setIfInBounds_toArray, List.set_cons_zero, List.set_cons_succ]))
      refine mix_done ?_
      go_wp2_with fail
      go_ret
      exact Hpost.out
set_option maxRecDepth 100000 in
set_option maxHeartbeats 1600000 in
theorem rdatPut_row (g cap : Nat) (e : Ev) (L : List Ev) (w : World) (hr : w.ownsRow 0 34 5 (.slice (some ⟨g, 0, none⟩) L.length cap) L.length (L.flatMap Ev.cells)) (hl : L.length ≤ 1000000) : Calls Try.prog 18 #[.slice (some ⟨g, 0, none⟩) L.length cap, e.agg] w (MakesEv w (putL L e)) := by
  obtain ⟨i0, hi, hi0, hi1, hi2⟩ := info_parts info_tEvent
  obtain ⟨ki, da, tr, am, re⟩ := e
  have hbS : ∀ W, Keeps (fun _ => False) (w.alloc (.cells #[.int .i64 ki, .int .i64 da, .int .i64 tr, .int .i64 am, .int .i64 re] 34)) W → bxS w.heap.size ki da tr am re W := fun W hW => bxS.of (box_old (heap_alloc_new w _) hW (by simp))
  obtain ⟨n, hn⟩ : ∃ n, L.length = n := ⟨_, rfl⟩
  rw [hn] at hr hl ⊢
  have hnc : n ≤ cap := by obtain ⟨ad, c, he, h1, _⟩ := ownsRow_shape hr; cases he; exact h1
  simp only [Ev.agg]
  have Hi := Lib.hid hi; clear hi; have Hi0 := Lib.hid hi0; clear hi0; have Hi1 := Lib.hid hi1; clear hi1; have Hi2 := Lib.hid hi2; clear hi2; have HbS := Lib.hid hbS; clear hbS; have Hn := Lib.hid hn; clear hn; have Hr := Lib.hid hr; clear hr
  go_enter Try.func18, Try.ntmps18
  go_wp2
  go_loopw [5] (fun x wx => ∃ k : Nat, x = .int .i64 (k : Nat) ∧ k ≤ n ∧ placeOf da L n = placeOf da L k ∧ Keeps (fun _ => False) (w.alloc (.cells #[.int .i64 ki, .int .i64 da, .int .i64 tr, .int .i64 am, .int .i64 re] 34)) wx) (fun x _ => (intOf x).toNat)
  case atStart => exact ⟨n, rfl, Nat.le_refl _, rfl, Keeps.refl _ _⟩
  case round =>
    obtain ⟨k, rfl, hkn, hp, hk⟩ := hrel
    rcases k with _ | k
    · have h0 : placeOf da L 0 = 0 := by cases L <;> rfl
      rw [h0] at hp
      have Hp := Lib.hid hp; clear hp; have Hk := Lib.hid hk; clear hk; have H0 := Lib.hid h0; clear h0
      go_wp2_with fail
      refine wp_region_mixw (bxS w.heap.size ki da tr am re) (.take 0 (.take 1 (.take 2 (.take 3 (.take 4 (.take 5 (.take 6 (.take 7 (.take 8 (.take 9 (.take 10 (.take 11 (.take 12 .done))))))))))))) (by kernel_rfl) (by kernel_rfl) ?_ ?_
      · exact HbS.out _ (Hk.out.nt (Keeps.drew _))
      intro w1 hs1 hk1
      repeat (first
        | (refine mix_skip rfl (by rfl) ?_; try simp only [Act.put, List.setIfInBounds_toArray, List.set_cons_zero, List.set_cons_succ])
        | (refine mix_skipm rfl (by rfl) ?_; try simp only [Act.put, List.setIfInBounds_toArray, List.set_cons_zero, List.set_cons_succ])
        | (refine mix_take (v := ?_) rfl (by rfl) ?_ ?_; rotate_left; (· intro w' hSw; unfold bxS at hSw; go_simp; (try with_reducible rfl)); rotate_right; try simp only [Act.put, List.setIfInBounds_toArray, List.set_cons_zero, List.set_cons_succ]))
      refine mix_done ?_
      have Hk := Lib.hid (Hk.out.nt hk1)
      clear hs1 hk1
      go_wp2_with fail
      by_cases hck : cap = 0
      · obtain rfl : n = 0 := by omega
        subst hck
        have hkn : 0 ≤ 0 := by omega
        have hlm : 0 + 1 + (0) ≤ 1000001 := by omega
        have hkI : (0 : Int) ≤ (0 : Int) := by omega
        have hkI0 : (0 : Int) ≤ (0 : Int) := by omega
        have hkI2 : (0 : Int) ≤ (0 : Int) := by omega
        have hend : ∀ v4 w4, World.ownsRow w4 0 34 5 v4 (0 + 1 + (0)) ((L.take 0).flatMap Ev.cells ++ [.int .i64 ki, .int .i64 da, .int .i64 tr, .int .i64 am, .int .i64 re] ++ (L.drop 0).flatMap Ev.cells) → Fresh (w.alloc (.cells #[.int .i64 ki, .int .i64 da, .int .i64 tr, .int .i64 am, .int .i64 re] 34)) w4 v4 → MakesEv w (putL L ⟨ki, da, tr, am, re⟩) (.returned v4) w4 := by
          intro v4 w4 ho hf
          have hp' := Hp.out
          refine ⟨v4, rfl, ?_, hf.up⟩
          rw [putL_length, Hn.out]
          have hL := Hn.out
          unfold putL
          simp only [hL]
          rw [hp', List.flatMap_append, List.flatMap_append]
          have hm : 0 + 1 + (0) = 0 + 1 := by omega
          rw [hm] at ho
          exact ho
        have hsuf : Reads (w.alloc (.cells #[.int .i64 ki, .int .i64 da, .int .i64 tr, .int .i64 am, .int .i64 re] 34)) 5 (.slice (some ⟨g, 0, none⟩) 0 0) (0) ((L.drop 0).flatMap Ev.cells) := by rw [List.drop_eq_nil_of_le (by rw [Hn.out]; exact Nat.le_refl _)]; exact Reads.none_of (by simp)
        have Hend := Lib.hid hend; clear hend; have Hsuf := Lib.hid hsuf; clear hsuf; have Hkn := Lib.hid hkn; clear hkn
        refine wp_region_mixw (bxS w.heap.size ki da tr am re) (.take 0 (.take 1 (.take 2 (.take 4 (.take 7 (.take 8 (.take 9 (.fork 3 (.move 5 (.move 6 (.move 10 (.take 11 .done)))) 5 (.move 3 (.move 6 (.move 10 (.take 11 .done)))))))))))) (by kernel_rfl) (by kernel_rfl) ?_ ?_
        · exact (HbS.out _ (Hk.out.nt (Keeps.drew _)))
        intro w1 hs1 hk1
        have hkw : Keeps (fun _ => False) (w.alloc (.cells #[.int .i64 ki, .int .i64 da, .int .i64 tr, .int .i64 am, .int .i64 re] 34)) w1 := Hk.out.nt hk1
        have hread := (Reads.of_owns Hr.out).keeps ((Keeps.alloc w _).nt hkw) (by simp)
        have Hkw := Lib.hid hkw; clear hkw; have Hread := Lib.hid hread; clear hread
        clear hs1 hk1
        repeat (first
          | (refine mix_skip rfl (by rfl) ?_; try simp only [Act.put, List.setIfInBounds_toArray, List.set_cons_zero, List.set_cons_succ])
          | (refine mix_skipm rfl (by rfl) ?_; try simp only [Act.put, List.setIfInBounds_toArray, List.set_cons_zero, List.set_cons_succ])
          | (refine mix_take (v := ?_) rfl (by rfl) ?_ ?_; rotate_left; (· intro w' hSw; unfold bxS at hSw; go_simp; (try with_reducible rfl)); rotate_right; try simp only [Act.put, List.setIfInBounds_toArray, List.set_cons_zero, List.set_cons_succ]))
        refine mix_fork ?_ ?_ (HbS.out _ Hkw.out)
        · skip
          refine mix_move rfl (fun K hK => ?_)
          refine step_append_row rfl (.const (.slice none 0 0)) (.tmp 25) 35 rfl 0 34 i0 _ 5 40 Try.underlying35 Hi.out Hi0.out Hi1.out Hi2.out rfl (by decide) (.slice none 0 0) 0 [] rfl (World.ownsRow_nil _ _ _ _) _ 0 _ rfl (Hread.out.preL Ev.cells_length 0 Hkn.out) (Ev.one _) (by unfold maxLen; omega) (by omega) (Nat.zero_le _) ?_
          intro v2 w2 hown2 hk2 hf2
          have hfr2 := ((Fresh.nil _).keep Hkw.out).app hk2 hf2
          have hbs2 := HbS.out _ hfr2.1
          obtain ⟨ad2, c2, rfl, _, _⟩ := ownsRow_shape hown2
          simp only [Nat.zero_add, List.nil_append] at hown2 hfr2 ⊢
          refine hK.out _ _ (by exact hbs2) ?_
          clear hK K
          try simp only [Act.put, List.setIfInBounds_toArray, List.set_cons_zero, List.set_cons_succ]
          have Hown2 := Lib.hid hown2; clear hown2; have Hfr2 := Lib.hid hfr2; clear hfr2; have Hbs2 := Lib.hid hbs2; clear hbs2
          clear hf2 hk2
          repeat (first
            | (refine mix_skip rfl (by rfl) ?_; try simp only [Act.put, List.setIfInBounds_toArray, List.set_cons_zero, List.set_cons_succ])
            | (refine mix_skipm rfl (by rfl) ?_; try simp only [Act.put, List.setIfInBounds_toArray, List.set_cons_zero, List.set_cons_succ])
            | (refine mix_take (v := ?_) rfl (by rfl) ?_ ?_; rotate_left; (· intro w' hSw; unfold bxS at hSw; go_simp; (try with_reducible rfl)); rotate_right; try simp only [Act.put, List.setIfInBounds_toArray, List.set_cons_zero, List.set_cons_succ]))
          refine mix_move rfl (fun K hK => ?_)
          go_simp
          refine hK.out _ _ (by exact HbS.out _ (Hfr2.out.1.nt (Keeps.alloc _ _))) ?_
          clear hK K
          try simp only [Act.put, List.setIfInBounds_toArray, List.set_cons_zero, List.set_cons_succ]
          refine mix_move rfl (fun K hK => ?_)
          refine step_append_row rfl (.tmp 26) (.tmp 28) 35 rfl 0 34 i0 _ 5 40 Try.underlying35 Hi.out Hi0.out Hi1.out Hi2.out rfl (by decide) _ 0 _ rfl (Hown2.out.alloc _) _ 1 _ rfl (Reads.litAt _ _ _ 5 1 _ (by first | rfl | simp) rfl) (by simp [Value.oneCell']) (by unfold maxLen; omega) (by omega) (Nat.zero_le _) ?_
          intro v3 w3 hown3 hk3 hf3
          have hfr3 := (Hfr2.out.keep (Keeps.alloc _ _)).app hk3 hf3
          have hbs3 := HbS.out _ hfr3.1
          obtain ⟨ad3, c3, rfl, _, _⟩ := ownsRow_shape hown3
          refine hK.out _ _ (by exact hbs3) ?_
          clear hK K
          try simp only [Act.put, List.setIfInBounds_toArray, List.set_cons_zero, List.set_cons_succ]
          have Hown3 := Lib.hid hown3; clear hown3; have Hfr3 := Lib.hid hfr3; clear hfr3; have Hbs3 := Lib.hid hbs3; clear hbs3
          clear hf3 hk3
          repeat (first
            | (refine mix_skip rfl (by rfl) ?_; try simp only [Act.put, List.setIfInBounds_toArray, List.set_cons_zero, List.set_cons_succ])
            | (refine mix_skipm rfl (by rfl) ?_; try simp only [Act.put, List.setIfInBounds_toArray, List.set_cons_zero, List.set_cons_succ])
            | (refine mix_take (v := ?_) rfl (by rfl) ?_ ?_; rotate_left; (· intro w' hSw; unfold bxS at hSw; go_simp; (try with_reducible rfl)); rotate_right; try simp only [Act.put, List.setIfInBounds_toArray, List.set_cons_zero, List.set_cons_succ]))
          refine mix_move rfl (fun K hK => ?_)
          refine step_append_row rfl (.tmp 29) (.tmp 32) 35 rfl 0 34 i0 _ 5 40 Try.underlying35 Hi.out Hi0.out Hi1.out Hi2.out rfl (by decide) _ (0 + 1) _ rfl Hown3.out (.slice (some ⟨g, 0, none⟩) 0 0) (0) _ rfl (Hsuf.out.keeps Hfr3.out.1 (by simp)) (Ev.one _) (by unfold maxLen; omega) (by omega) (Nat.zero_le _) ?_
          intro v4 w4 hown4 hk4 hf4
          have hfr4 := Hfr3.out.app hk4 hf4
          have hpost := Hend.out v4 w4 hown4 hfr4
          obtain ⟨ad4, c4, rfl, _, _⟩ := ownsRow_shape hown4
          refine hK.out _ _ (by exact HbS.out _ hfr4.1) ?_
          clear hK K
          try simp only [Act.put, List.setIfInBounds_toArray, List.set_cons_zero, List.set_cons_succ]
          have Hpost := Lib.hid hpost; clear hpost
          clear hown4 hk4 hf4 hfr4
          repeat (first
            | (refine mix_skip rfl (by rfl) ?_; try simp only [Act.put, List.setIfInBounds_toArray, List.set_cons_zero, List.set_cons_succ])
            | (refine mix_skipm rfl (by rfl) ?_; try simp only [Act.put, List.setIfInBounds_toArray, List.set_cons_zero, List.set_cons_succ])
            | (refine mix_take (v := ?_) rfl (by rfl) ?_ ?_; rotate_left; (· intro w' hSw; unfold bxS at hSw; go_simp; (try with_reducible rfl)); rotate_right; try simp only [Act.put, List.setIfInBounds_toArray, List.set_cons_zero, List.set_cons_succ]))
          refine mix_done ?_
          go_wp2_with fail
          go_ret
          exact Hpost.out
        · skip
          refine mix_move rfl (fun K hK => ?_)
          go_simp
          refine hK.out _ _ (by exact HbS.out _ (Hkw.out.nt (Keeps.alloc _ _))) ?_
          clear hK K
          try simp only [Act.put, List.setIfInBounds_toArray, List.set_cons_zero, List.set_cons_succ]
          repeat (first
            | (refine mix_skip rfl (by rfl) ?_; try simp only [Act.put, List.setIfInBounds_toArray, List.set_cons_zero, List.set_cons_succ])
            | (refine mix_skipm rfl (by rfl) ?_; try simp only [Act.put, List.setIfInBounds_toArray, List.set_cons_zero, List.set_cons_succ])
            | (refine mix_take (v := ?_) rfl (by rfl) ?_ ?_; rotate_left; (· intro w' hSw; unfold bxS at hSw; go_simp; (try with_reducible rfl)); rotate_right; try simp only [Act.put, List.setIfInBounds_toArray, List.set_cons_zero, List.set_cons_succ]))
          refine mix_move rfl (fun K hK => ?_)
          refine step_append_row rfl (.const (.slice none 0 0)) (.tmp 25) 35 rfl 0 34 i0 _ 5 40 Try.underlying35 Hi.out Hi0.out Hi1.out Hi2.out rfl (by decide) (.slice none 0 0) 0 [] rfl (World.ownsRow_nil _ _ _ _) _ 0 _ rfl ((Hread.out.preL Ev.cells_length 0 Hkn.out).alloc _) (Ev.one _) (by unfold maxLen; omega) (by omega) (Nat.zero_le _) ?_
          intro v2 w2 hown2 hk2 hf2
          have hfr2 := ((Fresh.nil _).keep (Hkw.out.nt (Keeps.alloc _ _))).app hk2 hf2
          have hbs2 := HbS.out _ hfr2.1
          obtain ⟨ad2, c2, rfl, _, _⟩ := ownsRow_shape hown2
          have hbx2 := Reads.blk (size := 5) (n := 1) (box_old (heap_alloc_new w1 _) hk2 (by simp [Value.ownBlock])) rfl
          simp only [Nat.zero_add, List.nil_append] at hown2 hfr2 hbx2 ⊢
          refine hK.out _ _ (by exact hbs2) ?_
          clear hK K
          try simp only [Act.put, List.setIfInBounds_toArray, List.set_cons_zero, List.set_cons_succ]
          have Hown2 := Lib.hid hown2; clear hown2; have Hfr2 := Lib.hid hfr2; clear hfr2; have Hbs2 := Lib.hid hbs2; clear hbs2; have Hbx2 := Lib.hid hbx2; clear hbx2
          clear hf2 hk2
          repeat (first
            | (refine mix_skip rfl (by rfl) ?_; try simp only [Act.put, List.setIfInBounds_toArray, List.set_cons_zero, List.set_cons_succ])
            | (refine mix_skipm rfl (by rfl) ?_; try simp only [Act.put, List.setIfInBounds_toArray, List.set_cons_zero, List.set_cons_succ])
            | (refine mix_take (v := ?_) rfl (by rfl) ?_ ?_; rotate_left; (· intro w' hSw; unfold bxS at hSw; go_simp; (try with_reducible rfl)); rotate_right; try simp only [Act.put, List.setIfInBounds_toArray, List.set_cons_zero, List.set_cons_succ]))
          refine mix_move rfl (fun K hK => ?_)
          refine step_append_row rfl (.tmp 26) (.tmp 28) 35 rfl 0 34 i0 _ 5 40 Try.underlying35 Hi.out Hi0.out Hi1.out Hi2.out rfl (by decide) _ 0 _ rfl Hown2.out _ 1 _ rfl Hbx2.out (by simp [Value.oneCell']) (by unfold maxLen; omega) (by omega) (Nat.zero_le _) ?_
          intro v3 w3 hown3 hk3 hf3
          have hfr3 := Hfr2.out.app hk3 hf3
          have hbs3 := HbS.out _ hfr3.1
          obtain ⟨ad3, c3, rfl, _, _⟩ := ownsRow_shape hown3
          refine hK.out _ _ (by exact hbs3) ?_
          clear hK K
          try simp only [Act.put, List.setIfInBounds_toArray, List.set_cons_zero, List.set_cons_succ]
          have Hown3 := Lib.hid hown3; clear hown3; have Hfr3 := Lib.hid hfr3; clear hfr3; have Hbs3 := Lib.hid hbs3; clear hbs3
          clear hf3 hk3
          repeat (first
            | (refine mix_skip rfl (by rfl) ?_; try simp only [Act.put, List.setIfInBounds_toArray, List.set_cons_zero, List.set_cons_succ])
            | (refine mix_skipm rfl (by rfl) ?_; try simp only [Act.put, List.setIfInBounds_toArray, List.set_cons_zero, List.set_cons_succ])
            | (refine mix_take (v := ?_) rfl (by rfl) ?_ ?_; rotate_left; (· intro w' hSw; unfold bxS at hSw; go_simp; (try with_reducible rfl)); rotate_right; try simp only [Act.put, List.setIfInBounds_toArray, List.set_cons_zero, List.set_cons_succ]))
          refine mix_move rfl (fun K hK => ?_)
          refine step_append_row rfl (.tmp 29) (.tmp 32) 35 rfl 0 34 i0 _ 5 40 Try.underlying35 Hi.out Hi0.out Hi1.out Hi2.out rfl (by decide) _ (0 + 1) _ rfl Hown3.out (.slice (some ⟨g, 0, none⟩) 0 0) (0) _ rfl (Hsuf.out.keeps Hfr3.out.1 (by simp)) (Ev.one _) (by unfold maxLen; omega) (by omega) (Nat.zero_le _) ?_
          intro v4 w4 hown4 hk4 hf4
          have hfr4 := Hfr3.out.app hk4 hf4
          have hpost := Hend.out v4 w4 hown4 hfr4
          obtain ⟨ad4, c4, rfl, _, _⟩ := ownsRow_shape hown4
          refine hK.out _ _ (by exact HbS.out _ hfr4.1) ?_
          clear hK K
          try simp only [Act.put, List.setIfInBounds_toArray, List.set_cons_zero, List.set_cons_succ]
          have Hpost := Lib.hid hpost; clear hpost
          clear hown4 hk4 hf4 hfr4
          repeat (first
            | (refine mix_skip rfl (by rfl) ?_; try simp only [Act.put, List.setIfInBounds_toArray, List.set_cons_zero, List.set_cons_succ])
            | (refine mix_skipm rfl (by rfl) ?_; try simp only [Act.put, List.setIfInBounds_toArray, List.set_cons_zero, List.set_cons_succ])
            | (refine mix_take (v := ?_) rfl (by rfl) ?_ ?_; rotate_left; (· intro w' hSw; unfold bxS at hSw; go_simp; (try with_reducible rfl)); rotate_right; try simp only [Act.put, List.setIfInBounds_toArray, List.set_cons_zero, List.set_cons_succ]))
          refine mix_done ?_
          go_wp2_with fail
          go_ret
          exact Hpost.out
      · have hck2 : ¬ (cap : Int) = (0 : Int) := by omega
        have hkn : 0 ≤ n := by omega
        have hlm : 0 + 1 + (n - 0) ≤ 1000001 := by omega
        have hkI : (0 : Int) ≤ (n : Int) := by omega
        have hkI0 : (0 : Int) ≤ (0 : Int) := by omega
        have hkI2 : (0 : Int) ≤ (cap : Int) := by omega
        have hend : ∀ v4 w4, World.ownsRow w4 0 34 5 v4 (0 + 1 + (n - 0)) ((L.take 0).flatMap Ev.cells ++ [.int .i64 ki, .int .i64 da, .int .i64 tr, .int .i64 am, .int .i64 re] ++ (L.drop 0).flatMap Ev.cells) → Fresh (w.alloc (.cells #[.int .i64 ki, .int .i64 da, .int .i64 tr, .int .i64 am, .int .i64 re] 34)) w4 v4 → MakesEv w (putL L ⟨ki, da, tr, am, re⟩) (.returned v4) w4 := by
          intro v4 w4 ho hf
          have hp' := Hp.out
          refine ⟨v4, rfl, ?_, hf.up⟩
          rw [putL_length, Hn.out]
          have hL := Hn.out
          unfold putL
          simp only [hL]
          rw [hp', List.flatMap_append, List.flatMap_append]
          have hm : 0 + 1 + (n - 0) = n + 1 := by omega
          rw [hm] at ho
          exact ho
        have hsuf : Reads (w.alloc (.cells #[.int .i64 ki, .int .i64 da, .int .i64 tr, .int .i64 am, .int .i64 re] 34)) 5 (.slice (some ⟨g, 0 * 5, none⟩) (n - 0) (cap - 0)) (n - 0) ((L.drop 0).flatMap Ev.cells) := by have := ((Reads.of_owns Hr.out).sufL Ev.cells_length 0 (by omega)).alloc (.cells #[.int .i64 ki, .int .i64 da, .int .i64 tr, .int .i64 am, .int .i64 re] 34); rwa [Nat.zero_add] at this
        have Hend := Lib.hid hend; clear hend; have Hsuf := Lib.hid hsuf; clear hsuf; have Hkn := Lib.hid hkn; clear hkn
        refine wp_region_mixw (bxS w.heap.size ki da tr am re) (.take 0 (.take 1 (.take 2 (.take 4 (.take 7 (.take 8 (.take 9 (.fork 3 (.move 5 (.move 6 (.move 10 (.take 11 .done)))) 5 (.move 3 (.move 6 (.move 10 (.take 11 .done)))))))))))) (by kernel_rfl) (by kernel_rfl) ?_ ?_
        · exact (HbS.out _ (Hk.out.nt (Keeps.drew _)))
        intro w1 hs1 hk1
        have hkw : Keeps (fun _ => False) (w.alloc (.cells #[.int .i64 ki, .int .i64 da, .int .i64 tr, .int .i64 am, .int .i64 re] 34)) w1 := Hk.out.nt hk1
        have hread := (Reads.of_owns Hr.out).keeps ((Keeps.alloc w _).nt hkw) (by simp)
        have Hkw := Lib.hid hkw; clear hkw; have Hread := Lib.hid hread; clear hread
        clear hs1 hk1
        repeat (first
          | (refine mix_skip rfl (by rfl) ?_; try simp only [Act.put, List.setIfInBounds_toArray, List.set_cons_zero, List.set_cons_succ])
          | (refine mix_skipm rfl (by rfl) ?_; try simp only [Act.put, List.setIfInBounds_toArray, List.set_cons_zero, List.set_cons_succ])
          | (refine mix_take (v := ?_) rfl (by rfl) ?_ ?_; rotate_left; (· intro w' hSw; unfold bxS at hSw; go_simp; (try with_reducible rfl)); rotate_right; try simp only [Act.put, List.setIfInBounds_toArray, List.set_cons_zero, List.set_cons_succ]))
        refine mix_fork ?_ ?_ (HbS.out _ Hkw.out)
        · skip
          refine mix_move rfl (fun K hK => ?_)
          refine step_append_row rfl (.const (.slice none 0 0)) (.tmp 25) 35 rfl 0 34 i0 _ 5 40 Try.underlying35 Hi.out Hi0.out Hi1.out Hi2.out rfl (by decide) (.slice none 0 0) 0 [] rfl (World.ownsRow_nil _ _ _ _) _ 0 _ rfl (Hread.out.preL Ev.cells_length 0 Hkn.out) (Ev.one _) (by unfold maxLen; omega) (by omega) (Nat.zero_le _) ?_
          intro v2 w2 hown2 hk2 hf2
          have hfr2 := ((Fresh.nil _).keep Hkw.out).app hk2 hf2
          have hbs2 := HbS.out _ hfr2.1
          obtain ⟨ad2, c2, rfl, _, _⟩ := ownsRow_shape hown2
          simp only [Nat.zero_add, List.nil_append] at hown2 hfr2 ⊢
          refine hK.out _ _ (by exact hbs2) ?_
          clear hK K
          try simp only [Act.put, List.setIfInBounds_toArray, List.set_cons_zero, List.set_cons_succ]
          have Hown2 := Lib.hid hown2; clear hown2; have Hfr2 := Lib.hid hfr2; clear hfr2; have Hbs2 := Lib.hid hbs2; clear hbs2
          clear hf2 hk2
          repeat (first
            | (refine mix_skip rfl (by rfl) ?_; try simp only [Act.put, List.setIfInBounds_toArray, List.set_cons_zero, List.set_cons_succ])
            | (refine mix_skipm rfl (by rfl) ?_; try simp only [Act.put, List.setIfInBounds_toArray, List.set_cons_zero, List.set_cons_succ])
            | (refine mix_take (v := ?_) rfl (by rfl) ?_ ?_; rotate_left; (· intro w' hSw; unfold bxS at hSw; go_simp; (try with_reducible rfl)); rotate_right; try simp only [Act.put, List.setIfInBounds_toArray, List.set_cons_zero, List.set_cons_succ]))
          refine mix_move rfl (fun K hK => ?_)
          go_simp
          refine hK.out _ _ (by exact HbS.out _ (Hfr2.out.1.nt (Keeps.alloc _ _))) ?_
          clear hK K
          try simp only [Act.put, List.setIfInBounds_toArray, List.set_cons_zero, List.set_cons_succ]
          refine mix_move rfl (fun K hK => ?_)
          refine step_append_row rfl (.tmp 26) (.tmp 28) 35 rfl 0 34 i0 _ 5 40 Try.underlying35 Hi.out Hi0.out Hi1.out Hi2.out rfl (by decide) _ 0 _ rfl (Hown2.out.alloc _) _ 1 _ rfl (Reads.litAt _ _ _ 5 1 _ (by first | rfl | simp) rfl) (by simp [Value.oneCell']) (by unfold maxLen; omega) (by omega) (Nat.zero_le _) ?_
          intro v3 w3 hown3 hk3 hf3
          have hfr3 := (Hfr2.out.keep (Keeps.alloc _ _)).app hk3 hf3
          have hbs3 := HbS.out _ hfr3.1
          obtain ⟨ad3, c3, rfl, _, _⟩ := ownsRow_shape hown3
          refine hK.out _ _ (by exact hbs3) ?_
          clear hK K
          try simp only [Act.put, List.setIfInBounds_toArray, List.set_cons_zero, List.set_cons_succ]
          have Hown3 := Lib.hid hown3; clear hown3; have Hfr3 := Lib.hid hfr3; clear hfr3; have Hbs3 := Lib.hid hbs3; clear hbs3
          clear hf3 hk3
          repeat (first
            | (refine mix_skip rfl (by rfl) ?_; try simp only [Act.put, List.setIfInBounds_toArray, List.set_cons_zero, List.set_cons_succ])
            | (refine mix_skipm rfl (by rfl) ?_; try simp only [Act.put, List.setIfInBounds_toArray, List.set_cons_zero, List.set_cons_succ])
            | (refine mix_take (v := ?_) rfl (by rfl) ?_ ?_; rotate_left; (· intro w' hSw; unfold bxS at hSw; go_simp; (try with_reducible rfl)); rotate_right; try simp only [Act.put, List.setIfInBounds_toArray, List.set_cons_zero, List.set_cons_succ]))
          refine mix_move rfl (fun K hK => ?_)
          refine step_append_row rfl (.tmp 29) (.tmp 32) 35 rfl 0 34 i0 _ 5 40 Try.underlying35 Hi.out Hi0.out Hi1.out Hi2.out rfl (by decide) _ (0 + 1) _ rfl Hown3.out (.slice (some ⟨g, 0 * 5, none⟩) (n - 0) (cap - 0)) (n - 0) _ rfl (Hsuf.out.keeps Hfr3.out.1 (by simp)) (Ev.one _) (by unfold maxLen; omega) (by omega) (Nat.zero_le _) ?_
          intro v4 w4 hown4 hk4 hf4
          have hfr4 := Hfr3.out.app hk4 hf4
          have hpost := Hend.out v4 w4 hown4 hfr4
          obtain ⟨ad4, c4, rfl, _, _⟩ := ownsRow_shape hown4
          refine hK.out _ _ (by exact HbS.out _ hfr4.1) ?_
          clear hK K
          try simp only [Act.put, List.setIfInBounds_toArray, List.set_cons_zero, List.set_cons_succ]
          have Hpost := Lib.hid hpost; clear hpost
          clear hown4 hk4 hf4 hfr4
          repeat (first
            | (refine mix_skip rfl (by rfl) ?_; try simp only [Act.put, List.setIfInBounds_toArray, List.set_cons_zero, List.set_cons_succ])
            | (refine mix_skipm rfl (by rfl) ?_; try simp only [Act.put, List.setIfInBounds_toArray, List.set_cons_zero, List.set_cons_succ])
            | (refine mix_take (v := ?_) rfl (by rfl) ?_ ?_; rotate_left; (· intro w' hSw; unfold bxS at hSw; go_simp; (try with_reducible rfl)); rotate_right; try simp only [Act.put, List.setIfInBounds_toArray, List.set_cons_zero, List.set_cons_succ]))
          refine mix_done ?_
          go_wp2_with fail
          go_ret
          exact Hpost.out
        · skip
          refine mix_move rfl (fun K hK => ?_)
          go_simp
          refine hK.out _ _ (by exact HbS.out _ (Hkw.out.nt (Keeps.alloc _ _))) ?_
          clear hK K
          try simp only [Act.put, List.setIfInBounds_toArray, List.set_cons_zero, List.set_cons_succ]
          repeat (first
            | (refine mix_skip rfl (by rfl) ?_; try simp only [Act.put, List.setIfInBounds_toArray, List.set_cons_zero, List.set_cons_succ])
            | (refine mix_skipm rfl (by rfl) ?_; try simp only [Act.put, List.setIfInBounds_toArray, List.set_cons_zero, List.set_cons_succ])
            | (refine mix_take (v := ?_) rfl (by rfl) ?_ ?_; rotate_left; (· intro w' hSw; unfold bxS at hSw; go_simp; (try with_reducible rfl)); rotate_right; try simp only [Act.put, List.setIfInBounds_toArray, List.set_cons_zero, List.set_cons_succ]))
          refine mix_move rfl (fun K hK => ?_)
          refine step_append_row rfl (.const (.slice none 0 0)) (.tmp 25) 35 rfl 0 34 i0 _ 5 40 Try.underlying35 Hi.out Hi0.out Hi1.out Hi2.out rfl (by decide) (.slice none 0 0) 0 [] rfl (World.ownsRow_nil _ _ _ _) _ 0 _ rfl ((Hread.out.preL Ev.cells_length 0 Hkn.out).alloc _) (Ev.one _) (by unfold maxLen; omega) (by omega) (Nat.zero_le _) ?_
          intro v2 w2 hown2 hk2 hf2
          have hfr2 := ((Fresh.nil _).keep (Hkw.out.nt (Keeps.alloc _ _))).app hk2 hf2
          have hbs2 := HbS.out _ hfr2.1
          obtain ⟨ad2, c2, rfl, _, _⟩ := ownsRow_shape hown2
          have hbx2 := Reads.blk (size := 5) (n := 1) (box_old (heap_alloc_new w1 _) hk2 (by simp [Value.ownBlock])) rfl
          simp only [Nat.zero_add, List.nil_append] at hown2 hfr2 hbx2 ⊢
          refine hK.out _ _ (by exact hbs2) ?_
          clear hK K
          try simp only [Act.put, List.setIfInBounds_toArray, List.set_cons_zero, List.set_cons_succ]
          have Hown2 := Lib.hid hown2; clear hown2; have Hfr2 := Lib.hid hfr2; clear hfr2; have Hbs2 := Lib.hid hbs2; clear hbs2; have Hbx2 := Lib.hid hbx2; clear hbx2
          clear hf2 hk2
          repeat (first
            | (refine mix_skip rfl (by rfl) ?_; try simp only [Act.put, List.setIfInBounds_toArray, List.set_cons_zero, List.set_cons_succ])
            | (refine mix_skipm rfl (by rfl) ?_; try simp only [Act.put, List.setIfInBounds_toArray, List.set_cons_zero, List.set_cons_succ])
            | (refine mix_take (v := ?_) rfl (by rfl) ?_ ?_; rotate_left; (· intro w' hSw; unfold bxS at hSw; go_simp; (try with_reducible rfl)); rotate_right; try simp only [Act.put, List.setIfInBounds_toArray, List.set_cons_zero, List.set_cons_succ]))
          refine mix_move rfl (fun K hK => ?_)
          refine step_append_row rfl (.tmp 26) (.tmp 28) 35 rfl 0 34 i0 _ 5 40 Try.underlying35 Hi.out Hi0.out Hi1.out Hi2.out rfl (by decide) _ 0 _ rfl Hown2.out _ 1 _ rfl Hbx2.out (by simp [Value.oneCell']) (by unfold maxLen; omega) (by omega) (Nat.zero_le _) ?_
          intro v3 w3 hown3 hk3 hf3
          have hfr3 := Hfr2.out.app hk3 hf3
          have hbs3 := HbS.out _ hfr3.1
          obtain ⟨ad3, c3, rfl, _, _⟩ := ownsRow_shape hown3
          refine hK.out _ _ (by exact hbs3) ?_
          clear hK K
          try simp only [Act.put, List.setIfInBounds_toArray, List.set_cons_zero, List.set_cons_succ]
          have Hown3 := Lib.hid hown3; clear hown3; have Hfr3 := Lib.hid hfr3; clear hfr3; have Hbs3 := Lib.hid hbs3; clear hbs3
          clear hf3 hk3
          repeat (first
            | (refine mix_skip rfl (by rfl) ?_; try simp only [Act.put, List.setIfInBounds_toArray, List.set_cons_zero, List.set_cons_succ])
            | (refine mix_skipm rfl (by rfl) ?_; try simp only [Act.put, List.setIfInBounds_toArray, List.set_cons_zero, List.set_cons_succ])
            | (refine mix_take (v := ?_) rfl (by rfl) ?_ ?_; rotate_left; (· intro w' hSw; unfold bxS at hSw; go_simp; (try with_reducible rfl)); rotate_right; try simp only [Act.put, List.setIfInBounds_toArray, List.set_cons_zero, List.set_cons_succ]))
          refine mix_move rfl (fun K hK => ?_)
          refine step_append_row rfl (.tmp 29) (.tmp 32) 35 rfl 0 34 i0 _ 5 40 Try.underlying35 Hi.out Hi0.out Hi1.out Hi2.out rfl (by decide) _ (0 + 1) _ rfl Hown3.out (.slice (some ⟨g, 0 * 5, none⟩) (n - 0) (cap - 0)) (n - 0) _ rfl (Hsuf.out.keeps Hfr3.out.1 (by simp)) (Ev.one _) (by unfold maxLen; omega) (by omega) (Nat.zero_le _) ?_
          intro v4 w4 hown4 hk4 hf4
          have hfr4 := Hfr3.out.app hk4 hf4
          have hpost := Hend.out v4 w4 hown4 hfr4
          obtain ⟨ad4, c4, rfl, _, _⟩ := ownsRow_shape hown4
          refine hK.out _ _ (by exact HbS.out _ hfr4.1) ?_
          clear hK K
          try simp only [Act.put, List.setIfInBounds_toArray, List.set_cons_zero, List.set_cons_succ]
          have Hpost := Lib.hid hpost; clear hpost
          clear hown4 hk4 hf4 hfr4
          repeat (first
            | (refine mix_skip rfl (by rfl) ?_; try simp only [Act.put, List.setIfInBounds_toArray, List.set_cons_zero, List.set_cons_succ])
            | (refine mix_skipm rfl (by rfl) ?_; try simp only [Act.put, List.setIfInBounds_toArray, List.set_cons_zero, List.set_cons_succ])
            | (refine mix_take (v := ?_) rfl (by rfl) ?_ ?_; rotate_left; (· intro w' hSw; unfold bxS at hSw; go_simp; (try with_reducible rfl)); rotate_right; try simp only [Act.put, List.setIfInBounds_toArray, List.set_cons_zero, List.set_cons_succ]))
          refine mix_done ?_
          go_wp2_with fail
          go_ret
          exact Hpost.out
    · obtain ⟨⟨xk, xd, xt, xa, xf⟩, hx⟩ := get_some (L := L) (k := k) (by rw [Hn.out]; omega)
      have hgx : Keeps (fun _ => False) w wr := (Keeps.alloc w _).nt hk
      obtain ⟨g', o', c', he, hc⟩ := ((Reads.of_owns Hr.out).keeps hgx (by simp)).elem Ev.cells_length hx (by decide)
      simp only [Value.slice.injEq, true_and, Option.some.injEq, Addr.mk.injEq, and_true] at he
      obtain ⟨⟨rfl, rfl⟩, rfl⟩ := he
      have x1 : wr.cell? ⟨g, k * 5 + 1, none⟩ = some (.int .i64 xd) := by have := hc 1 (by decide); rwa [Nat.zero_add] at this
      have hp2 : placeOf da L (k + 1) = if da < xd then placeOf da L k else k + 1 := by simp only [placeOf, hx]
      have q1 : IntKind.i64.wrap (((k + 1 : Nat) : Int) - 1) = (k : Int) := by rw [show ((k + 1 : Nat) : Int) - 1 = (k : Int) by omega]; exact IntWalk.i64_in _ ⟨by omega, by omega⟩
      have q2 : (0 : Int) < ((k + 1 : Nat) : Int) := by omega
      have q3 : (k : Int) < (n : Int) := by omega
      have q4 : ((k : Int) + 1) - 1 = k := by omega
      have q9 : IntKind.i64.wrap (k : Int) = (k : Int) := IntWalk.i64_in _ ⟨by omega, by omega⟩
      have hS : bxS1 w.heap.size ki da tr am re g (k * 5 + 1) xd wr.drew := ⟨x1, (HbS.out _ hk).2.1⟩
      clear hc x1
      by_cases hd : da < xd
      · rw [hp2, if_pos hd] at hp
        have hdd : decide (da < xd) = true := by simp [hd]
        have Hp := Lib.hid hp; clear hp; have Hk := Lib.hid hk; clear hk; have Hp2 := Lib.hid hp2; clear hp2; have Hx := Lib.hid hx; clear hx; have HS := Lib.hid hS; clear hS; have Hgx := Lib.hid hgx; clear hgx
        go_wp2_with fail
        refine wp_region_mixw (bxS1 w.heap.size ki da tr am re g (k * 5 + 1) xd) (.take 0 (.take 1 (.take 2 (.take 3 (.take 4 (.take 5 (.take 6 (.take 7 (.take 8 (.take 9 (.take 10 (.take 11 (.take 12 .done))))))))))))) (by kernel_rfl) (by kernel_rfl) ?_ ?_
        · exact HS.out
        intro w1 hs1 hk1
        repeat (first
          | (refine mix_skip rfl (by rfl) ?_; try simp only [Act.put, List.setIfInBounds_toArray, List.set_cons_zero, List.set_cons_succ])
          | (refine mix_skipm rfl (by rfl) ?_; try simp only [Act.put, List.setIfInBounds_toArray, List.set_cons_zero, List.set_cons_succ])
          | (refine mix_take (v := ?_) rfl (by rfl) ?_ ?_; rotate_left; (· intro w' hSw; unfold bxS1 at hSw; go_simp; (try with_reducible rfl)); rotate_right; try simp only [Act.put, List.setIfInBounds_toArray, List.set_cons_zero, List.set_cons_succ]))
        refine mix_done ?_
        have Hk := Lib.hid (Hk.out.nt hk1)
        clear hs1 hk1
        go_wp2_with fail
        go_roundw
        case rel => exact ⟨k, by go_num, by omega, Hp.out, Hk.out⟩
        case measure => simp [intOf]
      · rw [hp2, if_neg hd] at hp
        have hdd : decide (da < xd) = false := by simp; omega
        have Hp := Lib.hid hp; clear hp; have Hk := Lib.hid hk; clear hk; have Hp2 := Lib.hid hp2; clear hp2; have Hx := Lib.hid hx; clear hx; have HS := Lib.hid hS; clear hS; have Hgx := Lib.hid hgx; clear hgx
        go_wp2_with fail
        refine wp_region_mixw (bxS1 w.heap.size ki da tr am re g (k * 5 + 1) xd) (.take 0 (.take 1 (.take 2 (.take 3 (.take 4 (.take 5 (.take 6 (.take 7 (.take 8 (.take 9 (.take 10 (.take 11 (.take 12 .done))))))))))))) (by kernel_rfl) (by kernel_rfl) ?_ ?_
        · exact HS.out
        intro w1 hs1 hk1
        repeat (first
          | (refine mix_skip rfl (by rfl) ?_; try simp only [Act.put, List.setIfInBounds_toArray, List.set_cons_zero, List.set_cons_succ])
          | (refine mix_skipm rfl (by rfl) ?_; try simp only [Act.put, List.setIfInBounds_toArray, List.set_cons_zero, List.set_cons_succ])
          | (refine mix_take (v := ?_) rfl (by rfl) ?_ ?_; rotate_left; (· intro w' hSw; unfold bxS1 at hSw; go_simp; (try with_reducible rfl)); rotate_right; try simp only [Act.put, List.setIfInBounds_toArray, List.set_cons_zero, List.set_cons_succ]))
        refine mix_done ?_
        have Hk := Lib.hid (Hk.out.nt hk1)
        clear hs1 hk1
        go_wp2_with fail
        by_cases hck : cap = (k + 1)
        · obtain rfl : n = (k + 1) := by omega
          subst hck
          have hkn : (k + 1) ≤ (k + 1) := by omega
          have hlm : (k + 1) + 1 + (0) ≤ 1000001 := by omega
          have hkI : ((k + 1) : Int) ≤ ((k + 1) : Int) := by omega
          have hkI0 : (0 : Int) ≤ ((k + 1) : Int) := by omega
          have hkI2 : ((k + 1) : Int) ≤ ((k + 1) : Int) := by omega
          have hend : ∀ v4 w4, World.ownsRow w4 0 34 5 v4 ((k + 1) + 1 + (0)) ((L.take (k + 1)).flatMap Ev.cells ++ [.int .i64 ki, .int .i64 da, .int .i64 tr, .int .i64 am, .int .i64 re] ++ (L.drop (k + 1)).flatMap Ev.cells) → Fresh (w.alloc (.cells #[.int .i64 ki, .int .i64 da, .int .i64 tr, .int .i64 am, .int .i64 re] 34)) w4 v4 → MakesEv w (putL L ⟨ki, da, tr, am, re⟩) (.returned v4) w4 := by
            intro v4 w4 ho hf
            have hp' := Hp.out
            refine ⟨v4, rfl, ?_, hf.up⟩
            rw [putL_length, Hn.out]
            have hL := Hn.out
            unfold putL
            simp only [hL]
            rw [hp', List.flatMap_append, List.flatMap_append]
            have hm : (k + 1) + 1 + (0) = (k + 1) + 1 := by omega
            rw [hm] at ho
            exact ho
          have hsuf : Reads (w.alloc (.cells #[.int .i64 ki, .int .i64 da, .int .i64 tr, .int .i64 am, .int .i64 re] 34)) 5 (.slice (some ⟨g, 0, none⟩) 0 0) (0) ((L.drop (k + 1)).flatMap Ev.cells) := by rw [List.drop_eq_nil_of_le (by rw [Hn.out]; exact Nat.le_refl _)]; exact Reads.none_of (by simp)
          have Hend := Lib.hid hend; clear hend; have Hsuf := Lib.hid hsuf; clear hsuf; have Hkn := Lib.hid hkn; clear hkn
          refine wp_region_mixw (bxS w.heap.size ki da tr am re) (.take 0 (.take 1 (.take 2 (.take 4 (.take 7 (.take 8 (.take 9 (.fork 3 (.move 5 (.move 6 (.move 10 (.take 11 .done)))) 5 (.move 3 (.move 6 (.move 10 (.take 11 .done)))))))))))) (by kernel_rfl) (by kernel_rfl) ?_ ?_
          · exact (HbS.out _ (Hk.out.nt (Keeps.drew _)))
          intro w1 hs1 hk1
          have hkw : Keeps (fun _ => False) (w.alloc (.cells #[.int .i64 ki, .int .i64 da, .int .i64 tr, .int .i64 am, .int .i64 re] 34)) w1 := Hk.out.nt hk1
          have hread := (Reads.of_owns Hr.out).keeps ((Keeps.alloc w _).nt hkw) (by simp)
          have Hkw := Lib.hid hkw; clear hkw; have Hread := Lib.hid hread; clear hread
          clear hs1 hk1
          repeat (first
            | (refine mix_skip rfl (by rfl) ?_; try simp only [Act.put, List.setIfInBounds_toArray, List.set_cons_zero, List.set_cons_succ])
            | (refine mix_skipm rfl (by rfl) ?_; try simp only [Act.put, List.setIfInBounds_toArray, List.set_cons_zero, List.set_cons_succ])
            | (refine mix_take (v := ?_) rfl (by rfl) ?_ ?_; rotate_left; (· intro w' hSw; unfold bxS at hSw; go_simp; (try with_reducible rfl)); rotate_right; try simp only [Act.put, List.setIfInBounds_toArray, List.set_cons_zero, List.set_cons_succ]))
          refine mix_fork ?_ ?_ (HbS.out _ Hkw.out)
          · skip
            refine mix_move rfl (fun K hK => ?_)
            refine step_append_row rfl (.const (.slice none 0 0)) (.tmp 25) 35 rfl 0 34 i0 _ 5 40 Try.underlying35 Hi.out Hi0.out Hi1.out Hi2.out rfl (by decide) (.slice none 0 0) 0 [] rfl (World.ownsRow_nil _ _ _ _) _ (k + 1) _ rfl (Hread.out.preL Ev.cells_length (k + 1) Hkn.out) (Ev.one _) (by unfold maxLen; omega) (by omega) (Nat.zero_le _) ?_
            intro v2 w2 hown2 hk2 hf2
            have hfr2 := ((Fresh.nil _).keep Hkw.out).app hk2 hf2
            have hbs2 := HbS.out _ hfr2.1
            obtain ⟨ad2, c2, rfl, _, _⟩ := ownsRow_shape hown2
            simp only [Nat.zero_add, List.nil_append] at hown2 hfr2 ⊢
            refine hK.out _ _ (by exact hbs2) ?_
            clear hK K
            try simp only [Act.put, List.setIfInBounds_toArray, List.set_cons_zero, List.set_cons_succ]
            have Hown2 := Lib.hid hown2; clear hown2; have Hfr2 := Lib.hid hfr2; clear hfr2; have Hbs2 := Lib.hid hbs2; clear hbs2
            clear hf2 hk2
            repeat (first
              | (refine mix_skip rfl (by rfl) ?_; try simp only [Act.put, List.setIfInBounds_toArray, List.set_cons_zero, List.set_cons_succ])
              | (refine mix_skipm rfl (by rfl) ?_; try simp only [Act.put, List.setIfInBounds_toArray, List.set_cons_zero, List.set_cons_succ])
              | (refine mix_take (v := ?_) rfl (by rfl) ?_ ?_; rotate_left; (· intro w' hSw; unfold bxS at hSw; go_simp; (try with_reducible rfl)); rotate_right; try simp only [Act.put, List.setIfInBounds_toArray, List.set_cons_zero, List.set_cons_succ]))
            refine mix_move rfl (fun K hK => ?_)
            go_simp
            refine hK.out _ _ (by exact HbS.out _ (Hfr2.out.1.nt (Keeps.alloc _ _))) ?_
            clear hK K
            try simp only [Act.put, List.setIfInBounds_toArray, List.set_cons_zero, List.set_cons_succ]
            refine mix_move rfl (fun K hK => ?_)
            refine step_append_row rfl (.tmp 26) (.tmp 28) 35 rfl 0 34 i0 _ 5 40 Try.underlying35 Hi.out Hi0.out Hi1.out Hi2.out rfl (by decide) _ (k + 1) _ rfl (Hown2.out.alloc _) _ 1 _ rfl (Reads.litAt _ _ _ 5 1 _ (by first | rfl | simp) rfl) (by simp [Value.oneCell']) (by unfold maxLen; omega) (by omega) (Nat.zero_le _) ?_
            intro v3 w3 hown3 hk3 hf3
            have hfr3 := (Hfr2.out.keep (Keeps.alloc _ _)).app hk3 hf3
            have hbs3 := HbS.out _ hfr3.1
            obtain ⟨ad3, c3, rfl, _, _⟩ := ownsRow_shape hown3
            refine hK.out _ _ (by exact hbs3) ?_
            clear hK K
            try simp only [Act.put, List.setIfInBounds_toArray, List.set_cons_zero, List.set_cons_succ]
            have Hown3 := Lib.hid hown3; clear hown3; have Hfr3 := Lib.hid hfr3; clear hfr3; have Hbs3 := Lib.hid hbs3; clear hbs3
            clear hf3 hk3
            repeat (first
              | (refine mix_skip rfl (by rfl) ?_; try simp only [Act.put, List.setIfInBounds_toArray, List.set_cons_zero, List.set_cons_succ])
              | (refine mix_skipm rfl (by rfl) ?_; try simp only [Act.put, List.setIfInBounds_toArray, List.set_cons_zero, List.set_cons_succ])
              | (refine mix_take (v := ?_) rfl (by rfl) ?_ ?_; rotate_left; (· intro w' hSw; unfold bxS at hSw; go_simp; (try with_reducible rfl)); rotate_right; try simp only [Act.put, List.setIfInBounds_toArray, List.set_cons_zero, List.set_cons_succ]))
            refine mix_move rfl (fun K hK => ?_)
            refine step_append_row rfl (.tmp 29) (.tmp 32) 35 rfl 0 34 i0 _ 5 40 Try.underlying35 Hi.out Hi0.out Hi1.out Hi2.out rfl (by decide) _ ((k + 1) + 1) _ rfl Hown3.out (.slice (some ⟨g, 0, none⟩) 0 0) (0) _ rfl (Hsuf.out.keeps Hfr3.out.1 (by simp)) (Ev.one _) (by unfold maxLen; omega) (by omega) (Nat.zero_le _) ?_
            intro v4 w4 hown4 hk4 hf4
            have hfr4 := Hfr3.out.app hk4 hf4
            have hpost := Hend.out v4 w4 hown4 hfr4
            obtain ⟨ad4, c4, rfl, _, _⟩ := ownsRow_shape hown4
            refine hK.out _ _ (by exact HbS.out _ hfr4.1) ?_
            clear hK K
            try simp only [Act.put, List.setIfInBounds_toArray, List.set_cons_zero, List.set_cons_succ]
            have Hpost := Lib.hid hpost; clear hpost
            clear hown4 hk4 hf4 hfr4
            repeat (first
              | (refine mix_skip rfl (by rfl) ?_; try simp only [Act.put, List.setIfInBounds_toArray, List.set_cons_zero, List.set_cons_succ])
              | (refine mix_skipm rfl (by rfl) ?_; try simp only [Act.put, List.setIfInBounds_toArray, List.set_cons_zero, List.set_cons_succ])
              | (refine mix_take (v := ?_) rfl (by rfl) ?_ ?_; rotate_left; (· intro w' hSw; unfold bxS at hSw; go_simp; (try with_reducible rfl)); rotate_right; try simp only [Act.put, List.setIfInBounds_toArray, List.set_cons_zero, List.set_cons_succ]))
            refine mix_done ?_
            go_wp2_with fail
            go_ret
            exact Hpost.out
          · skip
            refine mix_move rfl (fun K hK => ?_)
            go_simp
            refine hK.out _ _ (by exact HbS.out _ (Hkw.out.nt (Keeps.alloc _ _))) ?_
            clear hK K
            try simp only [Act.put, List.setIfInBounds_toArray, List.set_cons_zero, List.set_cons_succ]
            repeat (first
              | (refine mix_skip rfl (by rfl) ?_; try simp only [Act.put, List.setIfInBounds_toArray, List.set_cons_zero, List.set_cons_succ])
              | (refine mix_skipm rfl (by rfl) ?_; try simp only [Act.put, List.setIfInBounds_toArray, List.set_cons_zero, List.set_cons_succ])
              | (refine mix_take (v := ?_) rfl (by rfl) ?_ ?_; rotate_left; (· intro w' hSw; unfold bxS at hSw; go_simp; (try with_reducible rfl)); rotate_right; try simp only [Act.put, List.setIfInBounds_toArray, List.set_cons_zero, List.set_cons_succ]))
            refine mix_move rfl (fun K hK => ?_)
            refine step_append_row rfl (.const (.slice none 0 0)) (.tmp 25) 35 rfl 0 34 i0 _ 5 40 Try.underlying35 Hi.out Hi0.out Hi1.out Hi2.out rfl (by decide) (.slice none 0 0) 0 [] rfl (World.ownsRow_nil _ _ _ _) _ (k + 1) _ rfl ((Hread.out.preL Ev.cells_length (k + 1) Hkn.out).alloc _) (Ev.one _) (by unfold maxLen; omega) (by omega) (Nat.zero_le _) ?_
            intro v2 w2 hown2 hk2 hf2
            have hfr2 := ((Fresh.nil _).keep (Hkw.out.nt (Keeps.alloc _ _))).app hk2 hf2
            have hbs2 := HbS.out _ hfr2.1
            obtain ⟨ad2, c2, rfl, _, _⟩ := ownsRow_shape hown2
            have hbx2 := Reads.blk (size := 5) (n := 1) (box_old (heap_alloc_new w1 _) hk2 (by simp [Value.ownBlock])) rfl
            simp only [Nat.zero_add, List.nil_append] at hown2 hfr2 hbx2 ⊢
            refine hK.out _ _ (by exact hbs2) ?_
            clear hK K
            try simp only [Act.put, List.setIfInBounds_toArray, List.set_cons_zero, List.set_cons_succ]
            have Hown2 := Lib.hid hown2; clear hown2; have Hfr2 := Lib.hid hfr2; clear hfr2; have Hbs2 := Lib.hid hbs2; clear hbs2; have Hbx2 := Lib.hid hbx2; clear hbx2
            clear hf2 hk2
            repeat (first
              | (refine mix_skip rfl (by rfl) ?_; try simp only [Act.put, List.setIfInBounds_toArray, List.set_cons_zero, List.set_cons_succ])
              | (refine mix_skipm rfl (by rfl) ?_; try simp only [Act.put, List.setIfInBounds_toArray, List.set_cons_zero, List.set_cons_succ])
              | (refine mix_take (v := ?_) rfl (by rfl) ?_ ?_; rotate_left; (· intro w' hSw; unfold bxS at hSw; go_simp; (try with_reducible rfl)); rotate_right; try simp only [Act.put, List.setIfInBounds_toArray, List.set_cons_zero, List.set_cons_succ]))
            refine mix_move rfl (fun K hK => ?_)
            refine step_append_row rfl (.tmp 26) (.tmp 28) 35 rfl 0 34 i0 _ 5 40 Try.underlying35 Hi.out Hi0.out Hi1.out Hi2.out rfl (by decide) _ (k + 1) _ rfl Hown2.out _ 1 _ rfl Hbx2.out (by simp [Value.oneCell']) (by unfold maxLen; omega) (by omega) (Nat.zero_le _) ?_
            intro v3 w3 hown3 hk3 hf3
            have hfr3 := Hfr2.out.app hk3 hf3
            have hbs3 := HbS.out _ hfr3.1
            obtain ⟨ad3, c3, rfl, _, _⟩ := ownsRow_shape hown3
            refine hK.out _ _ (by exact hbs3) ?_
            clear hK K
            try simp only [Act.put, List.setIfInBounds_toArray, List.set_cons_zero, List.set_cons_succ]
            have Hown3 := Lib.hid hown3; clear hown3; have Hfr3 := Lib.hid hfr3; clear hfr3; have Hbs3 := Lib.hid hbs3; clear hbs3
            clear hf3 hk3
            repeat (first
              | (refine mix_skip rfl (by rfl) ?_; try simp only [Act.put, List.setIfInBounds_toArray, List.set_cons_zero, List.set_cons_succ])
              | (refine mix_skipm rfl (by rfl) ?_; try simp only [Act.put, List.setIfInBounds_toArray, List.set_cons_zero, List.set_cons_succ])
              | (refine mix_take (v := ?_) rfl (by rfl) ?_ ?_; rotate_left; (· intro w' hSw; unfold bxS at hSw; go_simp; (try with_reducible rfl)); rotate_right; try simp only [Act.put, List.setIfInBounds_toArray, List.set_cons_zero, List.set_cons_succ]))
            refine mix_move rfl (fun K hK => ?_)
            refine step_append_row rfl (.tmp 29) (.tmp 32) 35 rfl 0 34 i0 _ 5 40 Try.underlying35 Hi.out Hi0.out Hi1.out Hi2.out rfl (by decide) _ ((k + 1) + 1) _ rfl Hown3.out (.slice (some ⟨g, 0, none⟩) 0 0) (0) _ rfl (Hsuf.out.keeps Hfr3.out.1 (by simp)) (Ev.one _) (by unfold maxLen; omega) (by omega) (Nat.zero_le _) ?_
            intro v4 w4 hown4 hk4 hf4
            have hfr4 := Hfr3.out.app hk4 hf4
            have hpost := Hend.out v4 w4 hown4 hfr4
            obtain ⟨ad4, c4, rfl, _, _⟩ := ownsRow_shape hown4
            refine hK.out _ _ (by exact HbS.out _ hfr4.1) ?_
            clear hK K
            try simp only [Act.put, List.setIfInBounds_toArray, List.set_cons_zero, List.set_cons_succ]
            have Hpost := Lib.hid hpost; clear hpost
            clear hown4 hk4 hf4 hfr4
            repeat (first
              | (refine mix_skip rfl (by rfl) ?_; try simp only [Act.put, List.setIfInBounds_toArray, List.set_cons_zero, List.set_cons_succ])
              | (refine mix_skipm rfl (by rfl) ?_; try simp only [Act.put, List.setIfInBounds_toArray, List.set_cons_zero, List.set_cons_succ])
              | (refine mix_take (v := ?_) rfl (by rfl) ?_ ?_; rotate_left; (· intro w' hSw; unfold bxS at hSw; go_simp; (try with_reducible rfl)); rotate_right; try simp only [Act.put, List.setIfInBounds_toArray, List.set_cons_zero, List.set_cons_succ]))
            refine mix_done ?_
            go_wp2_with fail
            go_ret
            exact Hpost.out
        · have hck2 : ¬ (cap : Int) = ((k + 1) : Int) := by omega
          have hkn : (k + 1) ≤ n := by omega
          have hlm : (k + 1) + 1 + (n - (k + 1)) ≤ 1000001 := by omega
          have hkI : ((k + 1) : Int) ≤ (n : Int) := by omega
          have hkI0 : (0 : Int) ≤ ((k + 1) : Int) := by omega
          have hkI2 : ((k + 1) : Int) ≤ (cap : Int) := by omega
          have hend : ∀ v4 w4, World.ownsRow w4 0 34 5 v4 ((k + 1) + 1 + (n - (k + 1))) ((L.take (k + 1)).flatMap Ev.cells ++ [.int .i64 ki, .int .i64 da, .int .i64 tr, .int .i64 am, .int .i64 re] ++ (L.drop (k + 1)).flatMap Ev.cells) → Fresh (w.alloc (.cells #[.int .i64 ki, .int .i64 da, .int .i64 tr, .int .i64 am, .int .i64 re] 34)) w4 v4 → MakesEv w (putL L ⟨ki, da, tr, am, re⟩) (.returned v4) w4 := by
            intro v4 w4 ho hf
            have hp' := Hp.out
            refine ⟨v4, rfl, ?_, hf.up⟩
            rw [putL_length, Hn.out]
            have hL := Hn.out
            unfold putL
            simp only [hL]
            rw [hp', List.flatMap_append, List.flatMap_append]
            have hm : (k + 1) + 1 + (n - (k + 1)) = n + 1 := by omega
            rw [hm] at ho
            exact ho
          have hsuf : Reads (w.alloc (.cells #[.int .i64 ki, .int .i64 da, .int .i64 tr, .int .i64 am, .int .i64 re] 34)) 5 (.slice (some ⟨g, (k + 1) * 5, none⟩) (n - (k + 1)) (cap - (k + 1))) (n - (k + 1)) ((L.drop (k + 1)).flatMap Ev.cells) := by have := ((Reads.of_owns Hr.out).sufL Ev.cells_length (k + 1) (by omega)).alloc (.cells #[.int .i64 ki, .int .i64 da, .int .i64 tr, .int .i64 am, .int .i64 re] 34); rwa [Nat.zero_add] at this
          have Hend := Lib.hid hend; clear hend; have Hsuf := Lib.hid hsuf; clear hsuf; have Hkn := Lib.hid hkn; clear hkn
          refine wp_region_mixw (bxS w.heap.size ki da tr am re) (.take 0 (.take 1 (.take 2 (.take 4 (.take 7 (.take 8 (.take 9 (.fork 3 (.move 5 (.move 6 (.move 10 (.take 11 .done)))) 5 (.move 3 (.move 6 (.move 10 (.take 11 .done)))))))))))) (by kernel_rfl) (by kernel_rfl) ?_ ?_
          · exact (HbS.out _ (Hk.out.nt (Keeps.drew _)))
          intro w1 hs1 hk1
          have hkw : Keeps (fun _ => False) (w.alloc (.cells #[.int .i64 ki, .int .i64 da, .int .i64 tr, .int .i64 am, .int .i64 re] 34)) w1 := Hk.out.nt hk1
          have hread := (Reads.of_owns Hr.out).keeps ((Keeps.alloc w _).nt hkw) (by simp)
          have Hkw := Lib.hid hkw; clear hkw; have Hread := Lib.hid hread; clear hread
          clear hs1 hk1
          repeat (first
            | (refine mix_skip rfl (by rfl) ?_; try simp only [Act.put, List.setIfInBounds_toArray, List.set_cons_zero, List.set_cons_succ])
            | (refine mix_skipm rfl (by rfl) ?_; try simp only [Act.put, List.setIfInBounds_toArray, List.set_cons_zero, List.set_cons_succ])
            | (refine mix_take (v := ?_) rfl (by rfl) ?_ ?_; rotate_left; (· intro w' hSw; unfold bxS at hSw; go_simp; (try with_reducible rfl)); rotate_right; try simp only [Act.put, List.setIfInBounds_toArray, List.set_cons_zero, List.set_cons_succ]))
          refine mix_fork ?_ ?_ (HbS.out _ Hkw.out)
          · skip
            refine mix_move rfl (fun K hK => ?_)
            refine step_append_row rfl (.const (.slice none 0 0)) (.tmp 25) 35 rfl 0 34 i0 _ 5 40 Try.underlying35 Hi.out Hi0.out Hi1.out Hi2.out rfl (by decide) (.slice none 0 0) 0 [] rfl (World.ownsRow_nil _ _ _ _) _ (k + 1) _ rfl (Hread.out.preL Ev.cells_length (k + 1) Hkn.out) (Ev.one _) (by unfold maxLen; omega) (by omega) (Nat.zero_le _) ?_
            intro v2 w2 hown2 hk2 hf2
            have hfr2 := ((Fresh.nil _).keep Hkw.out).app hk2 hf2
            have hbs2 := HbS.out _ hfr2.1
            obtain ⟨ad2, c2, rfl, _, _⟩ := ownsRow_shape hown2
            simp only [Nat.zero_add, List.nil_append] at hown2 hfr2 ⊢
            refine hK.out _ _ (by exact hbs2) ?_
            clear hK K
            try simp only [Act.put, List.setIfInBounds_toArray, List.set_cons_zero, List.set_cons_succ]
            have Hown2 := Lib.hid hown2; clear hown2; have Hfr2 := Lib.hid hfr2; clear hfr2; have Hbs2 := Lib.hid hbs2; clear hbs2
            clear hf2 hk2
            repeat (first
              | (refine mix_skip rfl (by rfl) ?_; try simp only [Act.put, List.setIfInBounds_toArray, List.set_cons_zero, List.set_cons_succ])
              | (refine mix_skipm rfl (by rfl) ?_; try simp only [Act.put, List.setIfInBounds_toArray, List.set_cons_zero, List.set_cons_succ])
              | (refine mix_take (v := ?_) rfl (by rfl) ?_ ?_; rotate_left; (· intro w' hSw; unfold bxS at hSw; go_simp; (try with_reducible rfl)); rotate_right; try simp only [Act.put, List.setIfInBounds_toArray, List.set_cons_zero, List.set_cons_succ]))
            refine mix_move rfl (fun K hK => ?_)
            go_simp
            refine hK.out _ _ (by exact HbS.out _ (Hfr2.out.1.nt (Keeps.alloc _ _))) ?_
            clear hK K
            try simp only [Act.put, List.setIfInBounds_toArray, List.set_cons_zero, List.set_cons_succ]
            refine mix_move rfl (fun K hK => ?_)
            refine step_append_row rfl (.tmp 26) (.tmp 28) 35 rfl 0 34 i0 _ 5 40 Try.underlying35 Hi.out Hi0.out Hi1.out Hi2.out rfl (by decide) _ (k + 1) _ rfl (Hown2.out.alloc _) _ 1 _ rfl (Reads.litAt _ _ _ 5 1 _ (by first | rfl | simp) rfl) (by simp [Value.oneCell']) (by unfold maxLen; omega) (by omega) (Nat.zero_le _) ?_
            intro v3 w3 hown3 hk3 hf3
            have hfr3 := (Hfr2.out.keep (Keeps.alloc _ _)).app hk3 hf3
            have hbs3 := HbS.out _ hfr3.1
            obtain ⟨ad3, c3, rfl, _, _⟩ := ownsRow_shape hown3
            refine hK.out _ _ (by exact hbs3) ?_
            clear hK K
            try simp only [Act.put, List.setIfInBounds_toArray, List.set_cons_zero, List.set_cons_succ]
            have Hown3 := Lib.hid hown3; clear hown3; have Hfr3 := Lib.hid hfr3; clear hfr3; have Hbs3 := Lib.hid hbs3; clear hbs3
            clear hf3 hk3
            repeat (first
              | (refine mix_skip rfl (by rfl) ?_; try simp only [Act.put, List.setIfInBounds_toArray, List.set_cons_zero, List.set_cons_succ])
              | (refine mix_skipm rfl (by rfl) ?_; try simp only [Act.put, List.setIfInBounds_toArray, List.set_cons_zero, List.set_cons_succ])
              | (refine mix_take (v := ?_) rfl (by rfl) ?_ ?_; rotate_left; (· intro w' hSw; unfold bxS at hSw; go_simp; (try with_reducible rfl)); rotate_right; try simp only [Act.put, List.setIfInBounds_toArray, List.set_cons_zero, List.set_cons_succ]))
            refine mix_move rfl (fun K hK => ?_)
            refine step_append_row rfl (.tmp 29) (.tmp 32) 35 rfl 0 34 i0 _ 5 40 Try.underlying35 Hi.out Hi0.out Hi1.out Hi2.out rfl (by decide) _ ((k + 1) + 1) _ rfl Hown3.out (.slice (some ⟨g, (k + 1) * 5, none⟩) (n - (k + 1)) (cap - (k + 1))) (n - (k + 1)) _ rfl (Hsuf.out.keeps Hfr3.out.1 (by simp)) (Ev.one _) (by unfold maxLen; omega) (by omega) (Nat.zero_le _) ?_
            intro v4 w4 hown4 hk4 hf4
            have hfr4 := Hfr3.out.app hk4 hf4
            have hpost := Hend.out v4 w4 hown4 hfr4
            obtain ⟨ad4, c4, rfl, _, _⟩ := ownsRow_shape hown4
            refine hK.out _ _ (by exact HbS.out _ hfr4.1) ?_
            clear hK K
            try simp only [Act.put, List.setIfInBounds_toArray, List.set_cons_zero, List.set_cons_succ]
            have Hpost := Lib.hid hpost; clear hpost
            clear hown4 hk4 hf4 hfr4
            repeat (first
              | (refine mix_skip rfl (by rfl) ?_; try simp only [Act.put, List.setIfInBounds_toArray, List.set_cons_zero, List.set_cons_succ])
              | (refine mix_skipm rfl (by rfl) ?_; try simp only [Act.put, List.setIfInBounds_toArray, List.set_cons_zero, List.set_cons_succ])
              | (refine mix_take (v := ?_) rfl (by rfl) ?_ ?_; rotate_left; (· intro w' hSw; unfold bxS at hSw; go_simp; (try with_reducible rfl)); rotate_right; try simp only [Act.put, List.setIfInBounds_toArray, List.set_cons_zero, List.set_cons_succ]))
            refine mix_done ?_
            go_wp2_with fail
            go_ret
            exact Hpost.out
          · skip
            refine mix_move rfl (fun K hK => ?_)
            go_simp
            refine hK.out _ _ (by exact HbS.out _ (Hkw.out.nt (Keeps.alloc _ _))) ?_
            clear hK K
            try simp only [Act.put, List.setIfInBounds_toArray, List.set_cons_zero, List.set_cons_succ]
            repeat (first
              | (refine mix_skip rfl (by rfl) ?_; try simp only [Act.put, List.setIfInBounds_toArray, List.set_cons_zero, List.set_cons_succ])
              | (refine mix_skipm rfl (by rfl) ?_; try simp only [Act.put, List.setIfInBounds_toArray, List.set_cons_zero, List.set_cons_succ])
              | (refine mix_take (v := ?_) rfl (by rfl) ?_ ?_; rotate_left; (· intro w' hSw; unfold bxS at hSw; go_simp; (try with_reducible rfl)); rotate_right; try simp only [Act.put, List.setIfInBounds_toArray, List.set_cons_zero, List.set_cons_succ]))
            refine mix_move rfl (fun K hK => ?_)
            refine step_append_row rfl (.const (.slice none 0 0)) (.tmp 25) 35 rfl 0 34 i0 _ 5 40 Try.underlying35 Hi.out Hi0.out Hi1.out Hi2.out rfl (by decide) (.slice none 0 0) 0 [] rfl (World.ownsRow_nil _ _ _ _) _ (k + 1) _ rfl ((Hread.out.preL Ev.cells_length (k + 1) Hkn.out).alloc _) (Ev.one _) (by unfold maxLen; omega) (by omega) (Nat.zero_le _) ?_
            intro v2 w2 hown2 hk2 hf2
            have hfr2 := ((Fresh.nil _).keep (Hkw.out.nt (Keeps.alloc _ _))).app hk2 hf2
            have hbs2 := HbS.out _ hfr2.1
            obtain ⟨ad2, c2, rfl, _, _⟩ := ownsRow_shape hown2
            have hbx2 := Reads.blk (size := 5) (n := 1) (box_old (heap_alloc_new w1 _) hk2 (by simp [Value.ownBlock])) rfl
            simp only [Nat.zero_add, List.nil_append] at hown2 hfr2 hbx2 ⊢
            refine hK.out _ _ (by exact hbs2) ?_
            clear hK K
            try simp only [Act.put, List.setIfInBounds_toArray, List.set_cons_zero, List.set_cons_succ]
            have Hown2 := Lib.hid hown2; clear hown2; have Hfr2 := Lib.hid hfr2; clear hfr2; have Hbs2 := Lib.hid hbs2; clear hbs2; have Hbx2 := Lib.hid hbx2; clear hbx2
            clear hf2 hk2
            repeat (first
              | (refine mix_skip rfl (by rfl) ?_; try simp only [Act.put, List.setIfInBounds_toArray, List.set_cons_zero, List.set_cons_succ])
              | (refine mix_skipm rfl (by rfl) ?_; try simp only [Act.put, List.setIfInBounds_toArray, List.set_cons_zero, List.set_cons_succ])
              | (refine mix_take (v := ?_) rfl (by rfl) ?_ ?_; rotate_left; (· intro w' hSw; unfold bxS at hSw; go_simp; (try with_reducible rfl)); rotate_right; try simp only [Act.put, List.setIfInBounds_toArray, List.set_cons_zero, List.set_cons_succ]))
            refine mix_move rfl (fun K hK => ?_)
            refine step_append_row rfl (.tmp 26) (.tmp 28) 35 rfl 0 34 i0 _ 5 40 Try.underlying35 Hi.out Hi0.out Hi1.out Hi2.out rfl (by decide) _ (k + 1) _ rfl Hown2.out _ 1 _ rfl Hbx2.out (by simp [Value.oneCell']) (by unfold maxLen; omega) (by omega) (Nat.zero_le _) ?_
            intro v3 w3 hown3 hk3 hf3
            have hfr3 := Hfr2.out.app hk3 hf3
            have hbs3 := HbS.out _ hfr3.1
            obtain ⟨ad3, c3, rfl, _, _⟩ := ownsRow_shape hown3
            refine hK.out _ _ (by exact hbs3) ?_
            clear hK K
            try simp only [Act.put, List.setIfInBounds_toArray, List.set_cons_zero, List.set_cons_succ]
            have Hown3 := Lib.hid hown3; clear hown3; have Hfr3 := Lib.hid hfr3; clear hfr3; have Hbs3 := Lib.hid hbs3; clear hbs3
            clear hf3 hk3
            repeat (first
              | (refine mix_skip rfl (by rfl) ?_; try simp only [Act.put, List.setIfInBounds_toArray, List.set_cons_zero, List.set_cons_succ])
              | (refine mix_skipm rfl (by rfl) ?_; try simp only [Act.put, List.setIfInBounds_toArray, List.set_cons_zero, List.set_cons_succ])
              | (refine mix_take (v := ?_) rfl (by rfl) ?_ ?_; rotate_left; (· intro w' hSw; unfold bxS at hSw; go_simp; (try with_reducible rfl)); rotate_right; try simp only [Act.put, List.setIfInBounds_toArray, List.set_cons_zero, List.set_cons_succ]))
            refine mix_move rfl (fun K hK => ?_)
            refine step_append_row rfl (.tmp 29) (.tmp 32) 35 rfl 0 34 i0 _ 5 40 Try.underlying35 Hi.out Hi0.out Hi1.out Hi2.out rfl (by decide) _ ((k + 1) + 1) _ rfl Hown3.out (.slice (some ⟨g, (k + 1) * 5, none⟩) (n - (k + 1)) (cap - (k + 1))) (n - (k + 1)) _ rfl (Hsuf.out.keeps Hfr3.out.1 (by simp)) (Ev.one _) (by unfold maxLen; omega) (by omega) (Nat.zero_le _) ?_
            intro v4 w4 hown4 hk4 hf4
            have hfr4 := Hfr3.out.app hk4 hf4
            have hpost := Hend.out v4 w4 hown4 hfr4
            obtain ⟨ad4, c4, rfl, _, _⟩ := ownsRow_shape hown4
            refine hK.out _ _ (by exact HbS.out _ hfr4.1) ?_
            clear hK K
            try simp only [Act.put, List.setIfInBounds_toArray, List.set_cons_zero, List.set_cons_succ]
            have Hpost := Lib.hid hpost; clear hpost
            clear hown4 hk4 hf4 hfr4
            repeat (first
              | (refine mix_skip rfl (by rfl) ?_; try simp only [Act.put, List.setIfInBounds_toArray, List.set_cons_zero, List.set_cons_succ])
              | (refine mix_skipm rfl (by rfl) ?_; try simp only [Act.put, List.setIfInBounds_toArray, List.set_cons_zero, List.set_cons_succ])
              | (refine mix_take (v := ?_) rfl (by rfl) ?_ ?_; rotate_left; (· intro w' hSw; unfold bxS at hSw; go_simp; (try with_reducible rfl)); rotate_right; try simp only [Act.put, List.setIfInBounds_toArray, List.set_cons_zero, List.set_cons_succ]))
            refine mix_done ?_
            go_wp2_with fail
            go_ret
            exact Hpost.out
theorem rdatPut_any (e : Ev) (L : List Ev) (v : Value) (w : World) (hr : w.ownsRow 0 34 5 v L.length (L.flatMap Ev.cells)) (hl : L.length ≤ 1000000) : Calls Try.prog 18 #[v, e.agg] w (MakesEv w (putL L e)) := by
  rcases id hr.2 with ⟨h1, h2⟩ | ⟨g, cap, cur, rfl, _⟩
  · obtain rfl : L = [] := List.eq_nil_of_length_eq_zero h2
    subst h1
    exact rdatPut_nil e w
  · exact rdatPut_row g cap e L w hr hl
end Go.Proofs.Ytelhlbplbkglkaa
