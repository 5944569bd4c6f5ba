/- The walks of the dispute layer: what each function of package dispute does, said of a book in memory. -/
import Derived.Test.YtmiafnndoioddaaPlainDisp
namespace Go.Proofs.Ytmiafnndoioddaa
open Go.RowKit
/-- A book in memory: its block, the row of its disputes. -/
structure BookAt (w : World) (b : Nat) (v : Value) (L : List Disp) : Prop where
  blk : w.heap[b]? = some (.cells #[v, .int .i64 (heldOf L)] 53 (0, 0))
  row : w.ownsRow 0 32 5 v L.length (L.flatMap Disp.cells)
  ok : BookOk L
def Foot (b : Nat) (v : Value) (k : Nat) : Prop := k = b ∨ v.ownBlock = some k
theorem BookAt.lt {w : World} {b : Nat} {v : Value} {L : List Disp} (h : BookAt w b v L) : ∀ k, Foot b v k → k < w.heap.size := by
  rintro k (rfl | hk)
  · exact lt_of_block h.blk
  · exact (h.row.lt k hk).2
theorem BookAt.keeps {S : Nat → Prop} {w w' : World} {b : Nat} {v : Value} {L : List Disp} (h : BookAt w b v L) (hk : Keeps S w w') (hS : ∀ k, Foot b v k → ¬ S k) : BookAt w' b v L :=
  ⟨by rw [hk.block b (lt_of_block h.blk) (hS b (.inl rfl))]; exact h.blk, hk.row h.row fun k hk => hS k (.inr hk), h.ok⟩
def BookPost (w : World) (b : Nat) (v : Value) (L' : List Disp) (r : Value) (e : Ending) (w' : World) : Prop :=
  e = .returned r ∧ ∃ v', BookAt w' b v' L' ∧ Keeps (Foot b v) w w' ∧ ∀ k, Foot b v' k → Foot b v k ∨ w.heap.size ≤ k
set_option maxRecDepth 100000 in
set_option maxHeartbeats 400000 in
theorem dispNew_any (w : World) : Calls Try.prog 7 #[] w fun e w' => e = .returned (.pointer (some ⟨w.heap.size, 0, none⟩)) ∧ BookAt w' w.heap.size (.slice none 0 0) [] ∧ Keeps (fun _ => False) w w' := by
  have hend : BookAt (w.alloc (.cells #[.slice none 0 0, .int .i64 0] 53)) w.heap.size (.slice none 0 0) [] ∧ Keeps (fun _ => False) w (w.alloc (.cells #[.slice none 0 0, .int .i64 0] 53)) :=
    ⟨⟨heap_alloc_new w _, World.ownsRow_nil _ _ _ _, by simp, by simp [heldOf], by simp⟩, Keeps.alloc _ _⟩
  have Hend := Lib.hid hend; clear hend
  go_enter Try.func7, Try.ntmps7
  go_wp2
  go_ret
  exact ⟨rfl, Hend.out⟩
set_option maxRecDepth 100000 in
set_option maxHeartbeats 400000 in
theorem dispOpen_nil (t d a : Int) (w : World) :
    Calls Try.prog 9 #[.pointer none, .int .i64 t, .int .i64 d, .int .i64 a] w fun e w' => e = .returned (.tuple #[.int .i64 0, .int .i64 2]) ∧ w' = w := by
  go_enter Try.func9, Try.ntmps9
  go_wp2
  refine wp_scope_ahead 0 rfl ?_
  go_wp2; go_step3; go_wp2; refine jump_goto ?_; go_wp2; rw [Exit.noGoto_ret]; go_ret2
  exact ⟨rfl, rfl⟩
set_option maxRecDepth 100000 in
set_option maxHeartbeats 400000 in
theorem dispOpen_7 (t d a : Int) (b : Nat) (w : World) (ht : t < 1 ∨ 8 < t) :
    Calls Try.prog 9 #[(.pointer (some ⟨b, 0, none⟩)), .int .i64 t, .int .i64 d, .int .i64 a] w fun e w' => e = .returned (.tuple #[.int .i64 0, .int .i64 7]) ∧ w' = w := by
  rcases (show t < 1 ∨ (¬ t < 1 ∧ 8 < t) from by omega) with ht | ⟨h2, ht⟩ <;>
  · go_enter Try.func9, Try.ntmps9
    go_wp2
    refine wp_scope_ahead 0 rfl ?_
    go_wp2; go_step3; go_wp2; refine jump_goto ?_; go_wp2; rw [Exit.noGoto_ret]; go_ret2
    exact ⟨rfl, rfl⟩
set_option maxRecDepth 100000 in
set_option maxHeartbeats 400000 in
theorem dispOpen_8 (t d a : Int) (b : Nat) (w : World) (ht : ¬ (t < 1 ∨ 8 < t)) (ha : a < 1 ∨ 1000000000000000 < a) :
    Calls Try.prog 9 #[(.pointer (some ⟨b, 0, none⟩)), .int .i64 t, .int .i64 d, .int .i64 a] w fun e w' => e = .returned (.tuple #[.int .i64 0, .int .i64 8]) ∧ w' = w := by
  have t1 : 1 ≤ t := by omega
  have t2 : t ≤ 8 := by omega
  clear ht
  rcases (show a < 1 ∨ (¬ a < 1 ∧ 1000000000000000 < a) from by omega) with ht | ⟨h2, ht⟩ <;>
  · go_enter Try.func9, Try.ntmps9
    go_wp2
    refine wp_scope_ahead 0 rfl ?_
    go_wp2; go_step3; go_wp2; refine jump_goto ?_; go_wp2; rw [Exit.noGoto_ret]; go_ret2
    exact ⟨rfl, rfl⟩
set_option maxRecDepth 100000 in
set_option maxHeartbeats 400000 in
theorem dispOpen_5 (t d a held : Int) (b : Nat) (v : Value) (w : World) (t1 : 1 ≤ t) (t2 : t ≤ 8) (a1 : 1 ≤ a) (a2 : a ≤ 1000000000000000) (l0 : 0 ≤ held) (l1 : held ≤ 1000000000000000) (ha : 1000000000000000 - held < a)
    (hb : w.heap[b]? = some (.cells #[v, .int .i64 held] 53 (0, 0))) :
    Calls Try.prog 9 #[(.pointer (some ⟨b, 0, none⟩)), .int .i64 t, .int .i64 d, .int .i64 a] w fun e w' => e = .returned (.tuple #[.int .i64 0, .int .i64 5]) ∧ w' = w := by
  have c1 : w.cell? ⟨b, 1, none⟩ = some (.int .i64 held) := cell_of_cells hb 1
  have Hb := Lib.hid hb; clear hb
  go_enter Try.func9, Try.ntmps9
  go_wp2
  refine wp_scope_ahead 0 rfl ?_
  go_wp2; go_step3; go_wp2; refine jump_goto ?_; go_wp2; rw [Exit.noGoto_ret]; go_ret2
  exact ⟨rfl, rfl⟩
set_option maxRecDepth 100000 in
set_option maxHeartbeats 400000 in
theorem dispOpen_14 (t d a held : Int) (b n cap : Nat) (ad : Option Addr) (w : World) (t1 : 1 ≤ t) (t2 : t ≤ 8) (a1 : 1 ≤ a) (a2 : a ≤ 1000000000000000) (l0 : 0 ≤ held) (l1 : held ≤ 1000000000000000) (ha : a ≤ 1000000000000000 - held)
    (hn : 2000 ≤ n) (hb : w.heap[b]? = some (.cells #[.slice ad n cap, .int .i64 held] 53 (0, 0))) :
    Calls Try.prog 9 #[(.pointer (some ⟨b, 0, none⟩)), .int .i64 t, .int .i64 d, .int .i64 a] w fun e w' => e = .returned (.tuple #[.int .i64 0, .int .i64 14]) ∧ w' = w := by
  have c0 : w.cell? ⟨b, 0, none⟩ = some (.slice ad n cap) := cell_of_cells hb 0
  have c1 : w.cell? ⟨b, 1, none⟩ = some (.int .i64 held) := cell_of_cells hb 1
  have Hb := Lib.hid hb; clear hb
  go_enter Try.func9, Try.ntmps9
  go_wp2
  refine wp_scope_ahead 0 rfl ?_
  go_wp2; go_step3; go_wp2; refine jump_goto ?_; go_wp2; rw [Exit.noGoto_ret]; go_ret2
  exact ⟨rfl, rfl⟩
set_option maxRecDepth 100000 in
set_option maxHeartbeats 800000 in
theorem dispOpen_ok (t d a held : Int) (n : Nat) (v : Value) (xs : List Value) (b : Nat) (w : World) (t1 : 1 ≤ t) (t2 : t ≤ 8) (a1 : 1 ≤ a) (a2 : a ≤ 1000000000000000)
    (l0 : 0 ≤ held) (l1 : held + a ≤ 1000000000000000) (ln : n < 2000)
    (hb : w.heap[b]? = some (.cells #[v, .int .i64 held] 53 (0, 0))) (hown : w.ownsRow 0 32 5 v n xs) :
    Calls Try.prog 9 #[(.pointer (some ⟨b, 0, none⟩)), .int .i64 t, .int .i64 d, .int .i64 a] w fun e w' => e = .returned (.tuple #[.int .i64 (n + 1), .int .i64 0]) ∧
      ∃ v', w'.heap[b]? = some (.cells #[v', .int .i64 (held + a)] 53 (0, 0)) ∧ w'.ownsRow 0 32 5 v' (n + 1) (xs ++ Disp.cells ⟨n + 1, t, d, a, 1⟩) ∧ Keeps (Foot b v) w w' ∧ ∀ k, Foot b v' k → Foot b v k ∨ w.heap.size ≤ k := by
  have c0 : w.cell? ⟨b, 0, none⟩ = some v := cell_of_cells hb 0
  have c1 : w.cell? ⟨b, 1, none⟩ = some (.int .i64 held) := cell_of_cells hb 1
  obtain ⟨i0, hi, hz0, hz1, hz2⟩ := info_parts info_tDisp
  obtain ⟨ad, cap, rfl, hncap, _⟩ := ownsRow_shape hown
  have Hown := Lib.hid hown; clear hown; have Hb := Lib.hid hb; clear hb
  go_enter Try.func9, Try.ntmps9
  go_wp2
  refine wp_scope_ahead 0 rfl ?_
  go_wp2
  go_quiet (fail)
  go_wp2_with (at_builtin; refine wpList_append_row rfl (.tmp 49) (.tmp 55) 40 rfl 0 32 i0 _ 5 40 Try.underlying40 hi hz0 hz1 hz2 rfl (by decide) _ n xs rfl (Hown.out.alloc _) _ 1 [.int .i64 (n + 1), .int .i64 t, .int .i64 d, .int .i64 a, .int .i64 1] rfl (Reads.lit _ _ _ _ _ rfl) (by simp [Value.oneCell']) (by unfold maxLen; omega) (by omega) (by omega) ?_)
  intro v' w1 hown1 hk1 hfr
  have hk0 : Keeps (fun k => (Value.slice ad n cap).ownBlock = some k) w w1 := (Keeps.trans (Keeps.trans (Keeps.drewN w nq) (Keeps.alloc _ _)) (hk1.mono fun k _ h => .inl h))
  have hne : (Value.slice ad n cap).ownBlock ≠ some b := ownsRow_ne Hown.out Hb.out (by decide)
  have hb1 : w1.heap[b]? = some (.cells #[.slice ad n cap, .int .i64 held] 53 (0, 0)) := by rw [hk0.block b (lt_of_block Hb.out) hne]; exact Hb.out
  have d0 : w1.cell? ⟨b, 0, none⟩ = some (.slice ad n cap) := cell_of_cells hb1 0
  have d1 : w1.cell? ⟨b, 1, none⟩ = some (.int .i64 held) := cell_of_cells hb1 1
  have e0 : w1.frozen? ⟨b, 0, none⟩ = false := free_of_cells hb1 0
  have e1 : w1.frozen? ⟨b, 1, none⟩ = false := free_of_cells hb1 1
  obtain ⟨ad', cap', rfl, hncap', _⟩ := ownsRow_shape hown1
  have hne1 : (Value.slice ad' (n + 1) cap').ownBlock ≠ some b := ownsRow_ne hown1 hb1 (by decide)
  have hend : ((w1.setCell ⟨b, 0, none⟩ (.slice ad' (n + 1) cap')).setCell ⟨b, 1, none⟩ (.int .i64 (held + a))).heap[b]? = some (.cells #[.slice ad' (n + 1) cap', .int .i64 (held + a)] 53 (0, 0)) ∧
      ((w1.setCell ⟨b, 0, none⟩ (.slice ad' (n + 1) cap')).setCell ⟨b, 1, none⟩ (.int .i64 (held + a))).ownsRow 0 32 5 (.slice ad' (n + 1) cap') (n + 1) (xs ++ Disp.cells ⟨n + 1, t, d, a, 1⟩) ∧
      Keeps (Foot b (.slice ad n cap)) w ((w1.setCell ⟨b, 0, none⟩ (.slice ad' (n + 1) cap')).setCell ⟨b, 1, none⟩ (.int .i64 (held + a))) ∧ ∀ k, Foot b (.slice ad' (n + 1) cap') k → Foot b (.slice ad n cap) k ∨ w.heap.size ≤ k := by
    refine ⟨?_, ?_, ?_, ?_⟩
    · exact heap_setCell_same _ _ _ _ _ _ (heap_setCell_same _ _ _ _ _ _ hb1)
    · exact ownsRow_setCell_other (ownsRow_setCell_other hown1 hne1 _) hne1 _
    · exact ((hk0.mono fun k _ h => .inr h).trans (Keeps.setCell _ _ _ (.inl (.inl rfl)))).trans (Keeps.setCell _ _ _ (.inl (.inl rfl)))
    · rintro k (rfl | hk)
      · exact .inl (.inl rfl)
      · rcases hfr with hf | ⟨g, hg, hh⟩
        · exact .inl (.inr (by rw [← hf]; exact hk))
        · right
          rw [hg] at hk
          simp only [Option.some.injEq] at hk
          omega
  have Hown1 := Lib.hid hown1; clear hown1; have Hk1 := Lib.hid hk1; clear hk1; have Hk0 := Lib.hid hk0; clear hk0; have Hfr := Lib.hid hfr; clear hfr; have Hb1 := Lib.hid hb1; clear hb1; have Hend := Lib.hid hend; clear hend
  clear c0 c1 hne hne1
  go_wp2
  go_step3
  go_wp2
  refine jump_ret ?_
  go_ret2
  exact ⟨rfl, _, Hend.out⟩
theorem dispOpen_any (t d a : Int) (L : List Disp) (v : Value) (b : Nat) (w : World) (h : BookAt w b v L) :
    Calls Try.prog 9 #[(.pointer (some ⟨b, 0, none⟩)), .int .i64 t, .int .i64 d, .int .i64 a] w (BookPost w b v (dOpen L t d a) (.tuple #[.int .i64 (dOpenRef L t a), .int .i64 (dOpenErr L t a)])) := by
  obtain ⟨hl, hh, hd⟩ := h.ok
  have h0 := heldOf_nonneg L hd
  have stay : ∀ n : Int, n ≠ 0 → dOpenErr L t a = n → ∀ e w', e = .returned (.tuple #[.int .i64 0, .int .i64 n]) ∧ w' = w → BookPost w b v (dOpen L t d a) (.tuple #[.int .i64 (dOpenRef L t a), .int .i64 (dOpenErr L t a)]) e w' := by
    rintro n hn he e w' ⟨rfl, rfl⟩
    have h1 : dOpen L t d a = L := by unfold dOpen; rw [if_neg (by omega)]
    have h2 : dOpenRef L t a = 0 := by unfold dOpenRef; rw [if_neg (by omega)]
    rw [h1, h2, he]
    exact ⟨rfl, v, h, Keeps.refl _ _, fun k hk => .inl hk⟩
  by_cases ht : t < 1 ∨ 8 < t
  · exact (dispOpen_7 t d a b w ht).mono (stay 7 (by decide) (by unfold dOpenErr; rw [if_pos ht]))
  by_cases ha : a < 1 ∨ 1000000000000000 < a
  · exact (dispOpen_8 t d a b w ht ha).mono (stay 8 (by decide) (by unfold dOpenErr; rw [if_neg ht, if_pos ha]))
  by_cases hs : 1000000000000000 - heldOf L < a
  · exact (dispOpen_5 t d a _ b v w (by omega) (by omega) (by omega) (by omega) h0 hh hs h.blk).mono (stay 5 (by decide) (by unfold dOpenErr; rw [if_neg ht, if_neg ha, if_pos hs]))
  by_cases hn : 2000 ≤ L.length
  · obtain ⟨ad, cap, rfl, _, _⟩ := ownsRow_shape h.row
    exact (dispOpen_14 t d a _ b _ cap ad w (by omega) (by omega) (by omega) (by omega) h0 hh (by omega) hn h.blk).mono (stay 14 (by decide) (by unfold dOpenErr; rw [if_neg ht, if_neg ha, if_neg hs, if_pos hn]))
  have he : dOpenErr L t a = 0 := by unfold dOpenErr; rw [if_neg ht, if_neg ha, if_neg hs, if_neg hn]
  have h1 : dOpen L t d a = L ++ [⟨L.length + 1, t, d, a, 1⟩] := by unfold dOpen; rw [if_pos he]
  have h2 : dOpenRef L t a = L.length + 1 := by unfold dOpenRef; rw [if_pos he]
  have hok := dOpen_ok h.ok t d a
  refine (dispOpen_ok t d a _ _ v _ b w (by omega) (by omega) (by omega) (by omega) h0 (by omega) (by omega) h.blk h.row).mono ?_
  rintro e w' ⟨rfl, v', hb, hr, hk, hf⟩
  refine ⟨by rw [he, h2], v', ⟨?_, ?_, hok⟩, hk, hf⟩
  · rw [h1, heldOf_append]; simpa using hb
  · rw [h1]; simpa [List.flatMap_append] using hr
end Go.Proofs.Ytmiafnndoioddaa
