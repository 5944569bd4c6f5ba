/- Walks of what the laws of replay share: things held against each other; the terms of two tranches. -/
import Derived.Test.YthcmpcekmkioaaaB8
namespace Go.Proofs.Ythcmpcekmkioaaa
open Go.RowKit
theorem fresh_raw {B n cT : Nat} {adT : Option Addr} {c0 c2 c3 c4 c5 c6 c7 c8 c9 c10 c11 c12 c13 c14 c15 c16 c17 c18 c19 : Value} {W W2 : World} (h : W.heap[B]? = some (.cells #[c0, .slice adT n cT, c2, c3, c4, c5, c6, c7, c8, c9, c10, c11, c12, c13, c14, c15, c16, c17, c18, c19] 94 (0, 0))) (hk : Keeps (fun _ => False) W W2) (a b : Nat) :
  ((W2.setCell ⟨B, 14, none⟩ (.slice (some ⟨a, 0, none⟩) n n)).setCell ⟨B, 15, none⟩ (.slice (some ⟨b, 0, none⟩) n n)).heap[B]? = some (.cells #[c0, .slice adT n cT, c2, c3, c4, c5, c6, c7, c8, c9, c10, c11, c12, c13, .slice (some ⟨a, 0, none⟩) n n, .slice (some ⟨b, 0, none⟩) n n, c16, c17, c18, c19] 94 (0, 0)) ∧ Keeps (fun i => i = B) W ((W2.setCell ⟨B, 14, none⟩ (.slice (some ⟨a, 0, none⟩) n n)).setCell ⟨B, 15, none⟩ (.slice (some ⟨b, 0, none⟩) n n)) := by
 have h2 := box_old h hk (by simp)
 have h3 := (heap_setCell_same _ _ 14 _ _ (.slice (some ⟨a, 0, none⟩) n n) h2).trans rfl
 have h4 := (heap_setCell_same _ _ 15 _ _ (.slice (some ⟨b, 0, none⟩) n n) h3).trans rfl
 have k1 : Keeps (fun i => i = B) W2 (W2.setCell ⟨B, 14, none⟩ (.slice (some ⟨a, 0, none⟩) n n)) := Keeps.setCell (S := fun i => i = B) _ _ _ rfl
 have k2 : Keeps (fun i => i = B) (W2.setCell ⟨B, 14, none⟩ (.slice (some ⟨a, 0, none⟩) n n)) ((W2.setCell ⟨B, 14, none⟩ (.slice (some ⟨a, 0, none⟩) n n)).setCell ⟨B, 15, none⟩ (.slice (some ⟨b, 0, none⟩) n n)) := Keeps.setCell (S := fun i => i = B) _ _ _ rfl
 have k0 : Keeps (fun i => i = B) W W2 := hk.mono (by simp)
 exact ⟨h4, Keeps.trans (Keeps.trans k0 (k1.mono fun _ _ h => .inl h)) (k2.mono fun _ _ h => .inl h)⟩
set_option maxRecDepth 100000 in
set_option maxHeartbeats 1600000 in
theorem runFresh_raw {B n cT : Nat} {adT : Option Addr} {c0 c2 c3 c4 c5 c6 c7 c8 c9 c10 c11 c12 c13 c14 c15 c16 c17 c18 c19 : Value} {W : World} (h : W.heap[B]? = some (.cells #[c0, .slice adT n cT, c2, c3, c4, c5, c6, c7, c8, c9, c10, c11, c12, c13, c14, c15, c16, c17, c18, c19] 94 (0, 0))) (hn : n ≤ 1000) :
  Calls Try.prog 42 #[(.pointer (some ⟨B, 0, none⟩))] W fun e W' => e = .returned (.tuple #[]) ∧ ∃ a b, W'.heap[B]? = some (.cells #[c0, .slice adT n cT, c2, c3, c4, c5, c6, c7, c8, c9, c10, c11, c12, c13, .slice (some ⟨a, 0, none⟩) n n, .slice (some ⟨b, 0, none⟩) n n, c16, c17, c18, c19] 94 (0, 0)) ∧ W'.heap[a]? = some (.cells ((List.replicate n si0).map SI.v).toArray 30 (0, 0)) ∧ W'.heap[b]? = some (.cells ((List.replicate n si0).map SI.v).toArray 30 (0, 0)) ∧ W.heap.size ≤ a ∧ W.heap.size ≤ b ∧ a ≠ b ∧ Keeps (fun i => i = B) W W' := by
 obtain ⟨i0, hi, hi0, hi1, hi2⟩ := info_parts info_tI64s
 have hmk := fun (W : World) => run_makeSlice (P := Try.prog) W 91 30 i0 (.slice none 0 0) Try.underlying91 hi hi0 .i64 .i64 (n : Int) (n : Int) (by omega) (by omega) (by rw [hi1]; omega) (by rw [hi2]; omega) (by omega)
 simp only [Int.toNat_natCast, hi1, Nat.mul_one] at hmk
 obtain ⟨Z, hZ⟩ : ∃ Z, Z = madeCells (Value.slice none 0 0).cells n := ⟨_, rfl⟩
 rw [← hZ] at hmk
 rw [made_sis] at hZ
 have hblk := h
 have hS : ∀ W', Keeps (fun _ => False) W W' → (W'.cell? ⟨B, 14, none⟩ = some c14 ∧ W'.cell? ⟨B, 15, none⟩ = some c15 ∧ W'.frozen? ⟨B, 14, none⟩ = false ∧ W'.frozen? ⟨B, 15, none⟩ = false ∧ B < W'.heap.size) := fun W' hk => by
  have hb := box_old h hk (by simp)
  exact ⟨cell_of_cells hb 14, cell_of_cells hb 15, free_of_cells hb 14, free_of_cells hb 15, lt_of_block hb⟩
 have q1 := cell_of_cells h 1
 have bl := lt_of_block h
 obtain ⟨H, Hblk, Hi, Hi0, Hi1, Hi2, HZ, HS⟩ := hid8 h hblk hi hi0 hi1 hi2 hZ hS; clear hS hZ hi2 hi1 hi0 hi hblk h
 go_enter Try.func42, Try.ntmps42
 go_wp2_with fail
 refine wp_region_mixw (fun _ => True) (.take 0 (.take 1 (.take 3 (.fork 2 (.move 4 (.take 5 (.take 6 (.take 7 (.move 8 .done))))) 4 (.move 2 (.take 5 (.take 6 (.take 7 (.move 8 .done))))))))) (by kernel_rfl) (by kernel_rfl) ?_ ?_
 ·trivial
 intro w1 hs1 hk1
 have Hk1 := Lib.hid hk1
 clear hk1 hs1
 repeat (first
  | (refine mix_skip rfl (by rfl) ?_; try simp only [Act.put, List.setIfInBounds_toArray, List.set_cons_zero, List.set_cons_succ])
  | (refine mix_skipm rfl (by rfl) ?_; try simp only [Act.put, List.setIfInBounds_toArray, List.set_cons_zero, List.set_cons_succ])
  | (refine mix_take (v := ?_) rfl (by rfl) ?_ ?_; rotate_left; (· intro w' hSw; (try dsimp only at hSw); go_simp; (try with_reducible rfl)); rotate_right; try simp only [Act.put, List.setIfInBounds_toArray, List.set_cons_zero, List.set_cons_succ]))
 refine mix_fork ?_ ?_ trivial
 ·skip
  refine mix_move rfl (fun K hK => ?_)
  go_simp
  refine hK.out _ _ (by trivial) ?_
  clear hK K
  try simp only [Act.put, List.setIfInBounds_toArray, List.set_cons_zero, List.set_cons_succ]
  repeat (first
   | (refine mix_skip rfl (by rfl) ?_; try simp only [Act.put, List.setIfInBounds_toArray, List.set_cons_zero, List.set_cons_succ])
   | (refine mix_skipm rfl (by rfl) ?_; try simp only [Act.put, List.setIfInBounds_toArray, List.set_cons_zero, List.set_cons_succ])
   | (refine mix_take (v := ?_) rfl (by rfl) ?_ ?_; rotate_left; (· intro w' hSw; (try dsimp only at hSw); go_simp; (try with_reducible rfl)); rotate_right; try simp only [Act.put, List.setIfInBounds_toArray, List.set_cons_zero, List.set_cons_succ]))
  refine mix_move rfl (fun K hK => ?_)
  go_simp
  refine hK.out _ _ (by trivial) ?_
  clear hK K
  try simp only [Act.put, List.setIfInBounds_toArray, List.set_cons_zero, List.set_cons_succ]
  repeat (first
   | (refine mix_skip rfl (by rfl) ?_; try simp only [Act.put, List.setIfInBounds_toArray, List.set_cons_zero, List.set_cons_succ])
   | (refine mix_skipm rfl (by rfl) ?_; try simp only [Act.put, List.setIfInBounds_toArray, List.set_cons_zero, List.set_cons_succ])
   | (refine mix_take (v := ?_) rfl (by rfl) ?_ ?_; rotate_left; (· intro w' hSw; (try dsimp only at hSw); go_simp; (try with_reducible rfl)); rotate_right; try simp only [Act.put, List.setIfInBounds_toArray, List.set_cons_zero, List.set_cons_succ]))
  obtain ⟨s14, s15, s16, s17, sl⟩ := HS.out _ ((Hk1.out.trans_alloc (o := .cells Z 30)).trans_alloc (o := .cells Z 30))
  have z0 : ((w1.alloc (.cells Z 30)).alloc (.cells Z 30)).heap[w1.heap.size]? = some (.cells ((List.replicate n si0).map SI.v).toArray 30 (0, 0)) := by rw [show ((List.replicate n si0).map SI.v).toArray = Z from HZ.out.symm]; exact box_alloc (heap_alloc_new w1 _) _
  have z1 : ((w1.alloc (.cells Z 30)).alloc (.cells Z 30)).heap[w1.heap.size + 1]? = some (.cells ((List.replicate n si0).map SI.v).toArray 30 (0, 0)) := by rw [show ((List.replicate n si0).map SI.v).toArray = Z from HZ.out.symm]; exact halloc_at2 _ _ (by simp)
  have hka := (Hk1.out.trans_alloc (o := .cells Z 30)).trans_alloc (o := .cells Z 30)
  obtain ⟨hfb, hfk⟩ := fresh_raw Hblk.out hka (w1.heap.size) (w1.heap.size + 1)
  have hBl := lt_of_block Hblk.out
  have hs1 := Hk1.out.size
  have kBB : Keeps (fun i => i = B) ((w1.alloc (.cells Z 30)).alloc (.cells Z 30)) ((((w1.alloc (.cells Z 30)).alloc (.cells Z 30)).setCell ⟨B, 14, none⟩ (.slice (some ⟨w1.heap.size, 0, none⟩) n n)).setCell ⟨B, 15, none⟩ (.slice (some ⟨w1.heap.size + 1, 0, none⟩) n n)) := (Keeps.setCell (S := fun i => i = B) _ _ _ rfl).trans (Keeps.setCell _ _ _ (.inl rfl))
  have hfin : ∃ a b, ((((w1.alloc (.cells Z 30)).alloc (.cells Z 30)).setCell ⟨B, 14, none⟩ (.slice (some ⟨w1.heap.size, 0, none⟩) n n)).setCell ⟨B, 15, none⟩ (.slice (some ⟨w1.heap.size + 1, 0, none⟩) n n)).heap[B]? = some (.cells #[c0, .slice adT n cT, c2, c3, c4, c5, c6, c7, c8, c9, c10, c11, c12, c13, .slice (some ⟨a, 0, none⟩) n n, .slice (some ⟨b, 0, none⟩) n n, c16, c17, c18, c19] 94 (0, 0)) ∧ ((((w1.alloc (.cells Z 30)).alloc (.cells Z 30)).setCell ⟨B, 14, none⟩ (.slice (some ⟨w1.heap.size, 0, none⟩) n n)).setCell ⟨B, 15, none⟩ (.slice (some ⟨w1.heap.size + 1, 0, none⟩) n n)).heap[a]? = some (.cells ((List.replicate n si0).map SI.v).toArray 30 (0, 0)) ∧
    ((((w1.alloc (.cells Z 30)).alloc (.cells Z 30)).setCell ⟨B, 14, none⟩ (.slice (some ⟨w1.heap.size, 0, none⟩) n n)).setCell ⟨B, 15, none⟩ (.slice (some ⟨w1.heap.size + 1, 0, none⟩) n n)).heap[b]? = some (.cells ((List.replicate n si0).map SI.v).toArray 30 (0, 0)) ∧ W.heap.size ≤ a ∧ W.heap.size ≤ b ∧ a ≠ b ∧ Keeps (fun i => i = B) W ((((w1.alloc (.cells Z 30)).alloc (.cells Z 30)).setCell ⟨B, 14, none⟩ (.slice (some ⟨w1.heap.size, 0, none⟩) n n)).setCell ⟨B, 15, none⟩ (.slice (some ⟨w1.heap.size + 1, 0, none⟩) n n)) :=
   ⟨w1.heap.size, w1.heap.size + 1, hfb, box_old z0 kBB (by omega), box_old z1 kBB (by omega), by omega, by omega, by omega, hfk⟩
  obtain ⟨Hfin, Z0, Z1, Hka, Hfb, Hfk, KBB⟩ := hid7 hfin z0 z1 hka hfb hfk kBB; clear kBB hfk hfb hka z1 z0 hfin
  refine mix_move rfl (fun K hK => ?_)
  go_simp
  refine hK.out _ _ (by trivial) ?_
  clear hK K
  try simp only [Act.put, List.setIfInBounds_toArray, List.set_cons_zero, List.set_cons_succ]
  repeat (first
   | (refine mix_skip rfl (by rfl) ?_; try simp only [Act.put, List.setIfInBounds_toArray, List.set_cons_zero, List.set_cons_succ])
   | (refine mix_skipm rfl (by rfl) ?_; try simp only [Act.put, List.setIfInBounds_toArray, List.set_cons_zero, List.set_cons_succ])
   | (refine mix_take (v := ?_) rfl (by rfl) ?_ ?_; rotate_left; (· intro w' hSw; (try dsimp only at hSw); go_simp; (try with_reducible rfl)); rotate_right; try simp only [Act.put, List.setIfInBounds_toArray, List.set_cons_zero, List.set_cons_succ]))
  refine mix_done ?_
  clear s14 s15 s16 s17 sl
  go_wp2
  go_end0
  exact ⟨rfl, Hfin.out⟩
 ·skip
  refine mix_move rfl (fun K hK => ?_)
  go_simp
  refine hK.out _ _ (by trivial) ?_
  clear hK K
  try simp only [Act.put, List.setIfInBounds_toArray, List.set_cons_zero, List.set_cons_succ]
  repeat (first
   | (refine mix_skip rfl (by rfl) ?_; try simp only [Act.put, List.setIfInBounds_toArray, List.set_cons_zero, List.set_cons_succ])
   | (refine mix_skipm rfl (by rfl) ?_; try simp only [Act.put, List.setIfInBounds_toArray, List.set_cons_zero, List.set_cons_succ])
   | (refine mix_take (v := ?_) rfl (by rfl) ?_ ?_; rotate_left; (· intro w' hSw; (try dsimp only at hSw); go_simp; (try with_reducible rfl)); rotate_right; try simp only [Act.put, List.setIfInBounds_toArray, List.set_cons_zero, List.set_cons_succ]))
  refine mix_move rfl (fun K hK => ?_)
  go_simp
  refine hK.out _ _ (by trivial) ?_
  clear hK K
  try simp only [Act.put, List.setIfInBounds_toArray, List.set_cons_zero, List.set_cons_succ]
  repeat (first
   | (refine mix_skip rfl (by rfl) ?_; try simp only [Act.put, List.setIfInBounds_toArray, List.set_cons_zero, List.set_cons_succ])
   | (refine mix_skipm rfl (by rfl) ?_; try simp only [Act.put, List.setIfInBounds_toArray, List.set_cons_zero, List.set_cons_succ])
   | (refine mix_take (v := ?_) rfl (by rfl) ?_ ?_; rotate_left; (· intro w' hSw; (try dsimp only at hSw); go_simp; (try with_reducible rfl)); rotate_right; try simp only [Act.put, List.setIfInBounds_toArray, List.set_cons_zero, List.set_cons_succ]))
  obtain ⟨s14, s15, s16, s17, sl⟩ := HS.out _ ((Hk1.out.trans_alloc (o := .cells Z 30)).trans_alloc (o := .cells Z 30))
  have z0 : ((w1.alloc (.cells Z 30)).alloc (.cells Z 30)).heap[w1.heap.size]? = some (.cells ((List.replicate n si0).map SI.v).toArray 30 (0, 0)) := by rw [show ((List.replicate n si0).map SI.v).toArray = Z from HZ.out.symm]; exact box_alloc (heap_alloc_new w1 _) _
  have z1 : ((w1.alloc (.cells Z 30)).alloc (.cells Z 30)).heap[w1.heap.size + 1]? = some (.cells ((List.replicate n si0).map SI.v).toArray 30 (0, 0)) := by rw [show ((List.replicate n si0).map SI.v).toArray = Z from HZ.out.symm]; exact halloc_at2 _ _ (by simp)
  have hka := (Hk1.out.trans_alloc (o := .cells Z 30)).trans_alloc (o := .cells Z 30)
  obtain ⟨hfb, hfk⟩ := fresh_raw Hblk.out hka (w1.heap.size + 1) (w1.heap.size)
  have hBl := lt_of_block Hblk.out
  have hs1 := Hk1.out.size
  have kBB : Keeps (fun i => i = B) ((w1.alloc (.cells Z 30)).alloc (.cells Z 30)) ((((w1.alloc (.cells Z 30)).alloc (.cells Z 30)).setCell ⟨B, 14, none⟩ (.slice (some ⟨w1.heap.size + 1, 0, none⟩) n n)).setCell ⟨B, 15, none⟩ (.slice (some ⟨w1.heap.size, 0, none⟩) n n)) := (Keeps.setCell (S := fun i => i = B) _ _ _ rfl).trans (Keeps.setCell _ _ _ (.inl rfl))
  have hfin : ∃ a b, ((((w1.alloc (.cells Z 30)).alloc (.cells Z 30)).setCell ⟨B, 14, none⟩ (.slice (some ⟨w1.heap.size + 1, 0, none⟩) n n)).setCell ⟨B, 15, none⟩ (.slice (some ⟨w1.heap.size, 0, none⟩) n n)).heap[B]? = some (.cells #[c0, .slice adT n cT, c2, c3, c4, c5, c6, c7, c8, c9, c10, c11, c12, c13, .slice (some ⟨a, 0, none⟩) n n, .slice (some ⟨b, 0, none⟩) n n, c16, c17, c18, c19] 94 (0, 0)) ∧ ((((w1.alloc (.cells Z 30)).alloc (.cells Z 30)).setCell ⟨B, 14, none⟩ (.slice (some ⟨w1.heap.size + 1, 0, none⟩) n n)).setCell ⟨B, 15, none⟩ (.slice (some ⟨w1.heap.size, 0, none⟩) n n)).heap[a]? = some (.cells ((List.replicate n si0).map SI.v).toArray 30 (0, 0)) ∧
    ((((w1.alloc (.cells Z 30)).alloc (.cells Z 30)).setCell ⟨B, 14, none⟩ (.slice (some ⟨w1.heap.size + 1, 0, none⟩) n n)).setCell ⟨B, 15, none⟩ (.slice (some ⟨w1.heap.size, 0, none⟩) n n)).heap[b]? = some (.cells ((List.replicate n si0).map SI.v).toArray 30 (0, 0)) ∧ W.heap.size ≤ a ∧ W.heap.size ≤ b ∧ a ≠ b ∧ Keeps (fun i => i = B) W ((((w1.alloc (.cells Z 30)).alloc (.cells Z 30)).setCell ⟨B, 14, none⟩ (.slice (some ⟨w1.heap.size + 1, 0, none⟩) n n)).setCell ⟨B, 15, none⟩ (.slice (some ⟨w1.heap.size, 0, none⟩) n n)) :=
   ⟨w1.heap.size + 1, w1.heap.size, hfb, box_old z1 kBB (by omega), box_old z0 kBB (by omega), by omega, by omega, by omega, hfk⟩
  obtain ⟨Hfin, Z0, Z1, Hka, Hfb, Hfk, KBB⟩ := hid7 hfin z0 z1 hka hfb hfk kBB; clear kBB hfk hfb hka z1 z0 hfin
  refine mix_move rfl (fun K hK => ?_)
  go_simp
  refine hK.out _ _ (by trivial) ?_
  clear hK K
  try simp only [Act.put, List.setIfInBounds_toArray, List.set_cons_zero, List.set_cons_succ]
  repeat (first
   | (refine mix_skip rfl (by rfl) ?_; try simp only [Act.put, List.setIfInBounds_toArray, List.set_cons_zero, List.set_cons_succ])
   | (refine mix_skipm rfl (by rfl) ?_; try simp only [Act.put, List.setIfInBounds_toArray, List.set_cons_zero, List.set_cons_succ])
   | (refine mix_take (v := ?_) rfl (by rfl) ?_ ?_; rotate_left; (· intro w' hSw; (try dsimp only at hSw); go_simp; (try with_reducible rfl)); rotate_right; try simp only [Act.put, List.setIfInBounds_toArray, List.set_cons_zero, List.set_cons_succ]))
  refine mix_done ?_
  clear s14 s15 s16 s17 sl
  go_wp2
  go_end0
  exact ⟨rfl, Hfin.out⟩
end Go.Proofs.Ythcmpcekmkioaaa
namespace Go.Proofs.Ythcmpcekmkioaaa
open Go.RowKit
theorem rowSame {W W' : World} {e : TypeId} {sz m : Nat} {v : Value} {xs : List Value} (h : W.ownsRow 0 e sz v m xs) (hb : ∀ g, v.ownBlock = some g → W'.heap[g]? = W.heap[g]?) : W'.ownsRow 0 e sz v m xs := by
 obtain ⟨h1, h2⟩ := h
 refine ⟨h1, ?_⟩
 rcases h2 with h2 | ⟨g, cap, cur, hv, h3, h4, h5⟩
 ·exact .inl h2
 ·exact .inr ⟨g, cap, cur, hv, h3, (hb g (by rw [hv]; rfl)).trans h4, h5⟩
section
variable {w0 : World} {X : Fx} {B : Nat} {t : Tm} {n : Nat} {vt : Value} {L : List Ev} {f0 f1 f2 : Value} {s : St} {vl vb vr : Value} {g0 g1 : Nat} {S0 S1 : List SI} {vo : Value} {P : List SV} {W W' : World}
theorem RunV.rebase (h : RunV w0 X B t n vt L f0 f1 f2 s vl vb vr g0 g1 S0 S1 vo P W) : RunV w0 ⟨X.X, X.X, W⟩ B t n vt L f0 f1 f2 s vl vb vr g0 g1 S0 S1 vo P W :=
 { h with
  yx := fun _ h => h
  fz := fun _ _ => rfl }
end
def wkX (b8 b13 : Nat) (vS : Value) : Nat → Prop := fun i => i = b8 ∨ i = b13 ∨ vS.ownBlock = some i
structure DayW (w : World) (B b8 b13 : Nat) (t : Tm) (n : Nat) (vt : Value) (T : List Ev) (A : List (Int × Int)) (vS : Value) (s : St) (W : World) : Prop where
 run : ∃ vl vb vr g0 g1 S0 S1 vo P, RunV w ⟨wkX b8 b13 vS, wkX b8 b13 vS, W⟩ B t n vt T .nilFunc .nilFunc .nilFunc s vl vb vr g0 g1 S0 S1 vo P W
 pos : W.heap[b8]? = some (.cells #[.slice none 0 0, .int .i64 0, .int .i64 0] 32 (0, 0))
 spn : ∃ x y, W.heap[b13]? = some (.cells #[.int .i64 x, .int .i64 y] 46 (0, 0))
 row : W.ownsRow 0 46 2 vS A.length (A.flatMap spc)
 lo : w.heap.size ≤ b8 ∧ w.heap.size ≤ b13 ∧ ∀ g, vS.ownBlock = some g → w.heap.size ≤ g
 nv : ∀ g, vS.ownBlock = some g → g ≠ b13
section
variable {w : World} {B b8 b13 : Nat} {t : Tm} {n : Nat} {vt : Value} {T : List Ev} {A : List (Int × Int)} {vS : Value} {s s' : St} {W W' : World}
theorem DayW.call (h : DayW w B b8 b13 t n vt T A vS s W) {vl vb vr : Value} {g0 g1 : Nat} {S0 S1 : List SI} {vo : Value} {P : List SV} (hr : RunV w ⟨wkX b8 b13 vS, wkX b8 b13 vS, W⟩ B t n vt T .nilFunc .nilFunc .nilFunc s' vl vb vr g0 g1 S0 S1 vo P W') : DayW w B b8 b13 t n vt T A vS s' W' := by
 have hb : ∀ b, wkX b8 b13 vS b → W'.heap[b]? = W.heap[b]? := fun b hb => hr.fz b hb
 obtain ⟨x, y, hxy⟩ := h.spn
 exact ⟨⟨_, _, _, _, _, _, _, _, _, hr.rebase⟩, (hb _ (.inl rfl)).trans h.pos, ⟨x, y, (hb _ (.inr (.inl rfl))).trans hxy⟩, rowSame h.row fun g hg => hb g (.inr (.inr hg)), h.lo, h.nv⟩
theorem DayW.span (h : DayW w B b8 b13 t n vt T A vS s W) (x y : Int) : DayW w B b8 b13 t n vt T A vS s ((W.setCell ⟨b13, 0, none⟩ (.int .i64 x)).setCell ⟨b13, 1, none⟩ (.int .i64 y)) ∧ ((W.setCell ⟨b13, 0, none⟩ (.int .i64 x)).setCell ⟨b13, 1, none⟩ (.int .i64 y)).heap[b13]? = some (.cells #[.int .i64 x, .int .i64 y] 46 (0, 0)) := by
 obtain ⟨x0, y0, hs⟩ := h.spn
 have hb : ((W.setCell ⟨b13, 0, none⟩ (.int .i64 x)).setCell ⟨b13, 1, none⟩ (.int .i64 y)).heap[b13]? = some (.cells #[.int .i64 x, .int .i64 y] 46 (0, 0)) := (heap_setCell_same _ _ 1 _ _ _ ((heap_setCell_same _ _ 0 _ _ _ hs).trans rfl)).trans rfl
 have hk : Keeps (fun i => i = b13) W ((W.setCell ⟨b13, 0, none⟩ (.int .i64 x)).setCell ⟨b13, 1, none⟩ (.int .i64 y)) := (Keeps.setCell (S := fun i => i = b13) _ _ _ rfl).trans (Keeps.setCell _ _ _ (.inl rfl))
 obtain ⟨vl, vb, vr, g0, g1, S0, S1, vo, P, hr⟩ := h.run
 have hr2 : RunV w ⟨wkX b8 b13 vS, fun _ => False, W⟩ B t n vt T .nilFunc .nilFunc .nilFunc s vl vb vr g0 g1 S0 S1 vo P W := { hr with yx := fun _ h => h.elim, fz := fun _ h => h.elim }
 have hr3 := (hr2.keep hk (fun b hb => by have e : b = b13 := hb; exact .inr (.inl e)) (fun _ _ h => h)).rebase
 refine ⟨⟨⟨vl, vb, vr, g0, g1, S0, S1, vo, P, hr3⟩, box_old h.pos hk (fun e => ?_), ⟨x, y, hb⟩, hk.row h.row (fun g hg e => h.nv g hg e), h.lo, h.nv⟩, hb⟩
 have e' : b8 = b13 := e
 have h1 := h.pos
 rw [e', hs] at h1
 injection h1 with h1
 injection h1 with _ h1 _
 exact absurd h1 (by decide)
theorem DayW.keep0 (h : DayW w B b8 b13 t n vt T A vS s W) (hk : Keeps (fun _ => False) W W') : DayW w B b8 b13 t n vt T A vS s W' := by
 obtain ⟨vl, vb, vr, g0, g1, S0, S1, vo, P, hr⟩ := h.run
 exact h.call (hr.keep0 hk)
theorem DayW.day (h : DayW w B b8 b13 t n vt T A vS s W) (d : Int) : DayW w B b8 b13 t n vt T A vS { s with day := d } (W.setCell ⟨B, 9, none⟩ (.int .i64 d)) := by
 obtain ⟨vl, vb, vr, g0, g1, S0, S1, vo, P, hr⟩ := h.run
 exact h.call (hr.setDay d)
theorem DayW.c9 (h : DayW w B b8 b13 t n vt T A vS s W) : W.cell? ⟨B, 9, none⟩ = some (.int .i64 s.day) ∧ W.frozen? ⟨B, 9, none⟩ = false ∧ B < W.heap.size := by
 obtain ⟨vl, vb, vr, g0, g1, S0, S1, vo, P, hr⟩ := h.run
 exact ⟨cell_of_cells hr.blk 9, free_of_cells hr.blk 9, lt_of_block hr.blk⟩
theorem DayW.keeps (h : DayW w B b8 b13 t n vt T A vS s W) : Keeps (fun _ => False) w W := by
 obtain ⟨_, _, _, _, _, _, _, _, _, hr⟩ := h.run
 exact hr.kp.mono fun k hk hX => by
  obtain ⟨h1, h2, h3⟩ := h.lo
  rcases hX with rfl | rfl | hX
  ·omega
  ·omega
  ·have := h3 k hX; omega
end
structure DayP (t : Tm) (T : List Ev) (n : Nat) (td : Int) (A : List (Int × Int)) (s : St) (Z : St × Int) : Prop where
 sp : ∃ fr te S', A.drop s.out.length = (fr, te) :: S' ∧ SpanOk fr te ∧ (te < td → SpanC td (te + 1) S') ∧ fr ≤ s.day ∧ s.day ≤ te ∧ StOk n s (s.day - fr).toNat ∧ walkD t T n (td - s.day).toNat ((fr, te) :: S') s = Z
 dt : s.day ≤ td
 i : s.i ≤ T.length
section
variable {t : Tm} {T : List Ev} {n : Nat} {td : Int} {A : List (Int × Int)} {s : St} {Z : St × Int}
theorem DayP.err (h : DayP t T n td A s Z) (he : (evR s.day (T.drop s.i) s.i s.p s.R).2.2.2 ≠ 0) : Z.2 = (evR s.day (T.drop s.i) s.i s.p s.R).2.2.2 := by
 obtain ⟨fr, te, S', _, _, _, _, _, _, hw⟩ := h.sp
 rcases hd : (td - s.day).toNat with _ | d
 ·rw [hd] at hw; unfold walkD at hw; rw [← hw]
 ·rw [hd] at hw; unfold walkD at hw; rw [if_neg he] at hw; rw [← hw]
theorem DayP.last (h : DayP t T n td A s Z) (hd : s.day = td) : Z = (evSt s (evR s.day (T.drop s.i) s.i s.p s.R), (evR s.day (T.drop s.i) s.i s.p s.R).2.2.2) := by
 obtain ⟨fr, te, S', _, _, _, _, _, _, hw⟩ := h.sp
 rw [show (td - s.day).toNat = 0 by omega] at hw
 unfold walkD at hw
 exact hw.symm
theorem DayP.go (h : DayP t T n td A s Z) (he : (evR s.day (T.drop s.i) s.i s.p s.R).2.2.2 = 0) (hd : s.day ≠ td) (hz : t.err = 0) (hn : t.trs.length = n) :
  ∃ fr te, A[s.out.length]? = some (fr, te) ∧ SpanOk fr te ∧ StOk n (endSt (evSt s (evR s.day (T.drop s.i) s.i s.p s.R)) n n) ((s.day - fr).toNat + 1) ∧ fr ≤ s.day ∧ s.day ≤ te ∧ s.out.length < A.length ∧
   (te ≠ s.day → DayP t T n td A { endSt (evSt s (evR s.day (T.drop s.i) s.i s.p s.R)) n n with day := s.day + 1 } Z) ∧
   (te = s.day → closeS t T n (endSt (evSt s (evR s.day (T.drop s.i) s.i s.p s.R)) n n) fr te = none → Z.2 = 5) ∧
   (te = s.day → ∀ s2, closeS t T n (endSt (evSt s (evR s.day (T.drop s.i) s.i s.p s.R)) n n) fr te = some s2 → DayP t T n td A { s2 with day := s.day + 1 } Z) := by
 obtain ⟨fr, te, S', hA, hok, hnx, hfr, hte, hs, hw⟩ := h.sp
 have hdt := h.dt
 have hi := h.i
 obtain ⟨d, hdd⟩ : ∃ d, (td - s.day).toNat = d + 1 := ⟨(td - s.day).toNat - 1, by omega⟩
 rw [hdd] at hw
 unfold walkD at hw
 rw [if_pos he] at hw
 have hget : A[s.out.length]? = some (fr, te) := by
  have h1 := congrArg (fun l => l[0]?) hA
  simpa using h1
 have hlt : s.out.length < A.length := by
  obtain ⟨hh, _⟩ := List.getElem?_eq_some_iff.1 hget
  exact hh
 have hs1 : StOk n (endSt (evSt s (evR s.day (T.drop s.i) s.i s.p s.R)) n n) ((s.day - fr).toNat + 1) := (hs.ev he).fin
 obtain ⟨_, _, _, _, i1, i2⟩ := evR_ok s.day (T.drop s.i) s.i s.p s.R hs.pr hs.rt he
 have hi2 : (evR s.day (T.drop s.i) s.i s.p s.R).1 ≤ T.length := by
  rw [List.length_drop] at i2; omega
 refine ⟨fr, te, hget, hok, hs1, hfr, hte, hlt, fun hne => ?_, fun he hc => ?_, fun he s2 hc => ?_⟩
 ·dsimp only at hw
  rw [if_neg hne] at hw
  refine ⟨⟨fr, te, S', hA, hok, hnx, by show fr ≤ s.day + 1; omega, by show s.day + 1 ≤ te; omega, ?_, ?_⟩, by show s.day + 1 ≤ td; omega, hi2⟩
  ·show StOk n _ (s.day + 1 - fr).toNat
   rw [show (s.day + 1 - fr).toNat = (s.day - fr).toNat + 1 by omega]
   exact ⟨hs1.pr, hs1.nb, hs1.nr, hs1.rt, hs1.n0, hs1.n1, hs1.m0, hs1.m1⟩
  ·show walkD t T n (td - (s.day + 1)).toNat _ _ = Z
   rw [show (td - (s.day + 1)).toNat = d by omega]
   exact hw
 ·dsimp only at hw
  rw [if_pos he, hc] at hw
  rw [← hw]
 ·dsimp only at hw
  rw [if_pos he, hc] at hw
  obtain ⟨c1, c2, c3, c4⟩ := closeS_ok hz hn hs1 hc
  obtain ⟨te', S'', hS, hok', hfr', hnx'⟩ := (hnx (by omega)).head
  subst hS
  have hA2 : A.drop (s.out.length + 1) = (te + 1, te') :: S'' := by
   rw [← List.drop_drop, hA]; rfl
  have hlo := hok'.le
  refine ⟨⟨te + 1, te', S'', ?_, hok', hnx', by show te + 1 ≤ s.day + 1; omega, by show s.day + 1 ≤ te'; omega, ?_, ?_⟩, by show s.day + 1 ≤ td; omega, ?_⟩
  ·show A.drop s2.out.length = _
   rw [c2]; exact hA2
  ·show StOk n _ (s.day + 1 - (te + 1)).toNat
   rw [show (s.day + 1 - (te + 1)).toNat = 0 by omega]
   exact ⟨c1.pr, c1.nb, c1.nr, c1.rt, c1.n0, c1.n1, c1.m0, c1.m1⟩
  ·show walkD t T n (td - (s.day + 1)).toNat _ _ = Z
   rw [show (td - (s.day + 1)).toNat = d by omega]
   exact hw
  ·show s2.i ≤ T.length
   rw [c3]; exact hi2
theorem DayP.start {L : List Ev} (hz : repErr t L td = 0) (hn : t.trs.length = n) : DayP t (sortL L) n td (allL t.start t.cyc td) (st0 t) (walkR t L td) := by
 have hr := repErr_ok hz
 have hA : allL t.start t.cyc td = (findW t.cyc td 300 t.start).1 := by unfold allL; rw [if_pos hr.fd]
 obtain ⟨hs, _⟩ := find_spans t.cyc td 300 t.start hr.fd
 obtain ⟨te, S', hS, hok, _, hnx⟩ := hs.head
 refine ⟨⟨t.start, te, S', ?_, hok, hnx, Int.le_refl _, hok.le, ?_, ?_⟩, hr.d0, Nat.zero_le _⟩
 ·rw [hA, hS]; rfl
 ·show StOk n (st0 t) (t.start - t.start).toNat
  rw [show (t.start - t.start).toNat = 0 by omega, ← hn]
  exact st0_ok hr.tm
 ·unfold walkR
  rw [if_pos hz, hA, hS, hn]
  rfl
theorem allL_length (st cd day : Int) : (allL st cd day).length ≤ 300 := by
 unfold allL
 split
 ·rename_i h; exact (find_spans cd day 300 st h).2
 ·simp
end
end Go.Proofs.Ythcmpcekmkioaaa
namespace Go.Proofs.Ythcmpcekmkioaaa
open Go.RowKit
theorem tbS.keepS {E : Nat} {t : Tm} {v : Value} {w w' : World} {S : Nat → Prop} (h : tbS E t v w) (hk : Keeps S w w') (hS : ¬ S E) : tbS E t v w' := by
 obtain ⟨h0, h1, h2, h3, h4, h5, h6⟩ := h
 exact ⟨(hk.cell (cell_lt h0) hS).trans h0, (hk.cell (cell_lt h1) hS).trans h1, (hk.cell (cell_lt h2) hS).trans h2, (hk.cell (cell_lt h3) hS).trans h3, (hk.cell (cell_lt h4) hS).trans h4, (hk.cell (cell_lt h5) hS).trans h5, (hk.cell (cell_lt h6) hS).trans h6⟩
structure PreR (w : World) (B b8 b13 : Nat) (t : Tm) (n : Nat) (vt : Value) (T : List Ev) (A : List (Int × Int)) (vS vl vb : Value) (f0 f1 f2 : Value) (vr : Value) (k : Nat) (W : World) : Prop where
 blk : W.heap[B]? = some (.cells #[.int .i64 t.limit, vt, .int .i64 t.cyc, .int .i64 t.due, .int .i64 t.minFixed, .int .i64 t.minPart, .int .i64 t.start, vl, .int .i64 0, .int .i64 t.start, vb, .int .i64 0, .int .i64 0, vr, .slice none 0 0, .slice none 0 0, .slice none 0 0, f0, f1, f2] 94 (0, 0))
 tb : tbS w.heap.size t vt W
 evs : W.ownsRow 0 54 5 vl T.length (T.flatMap Ev.cells)
 bal : W.ownsRow 0 2 1 vb n ((List.replicate n (0 : Int)).flatMap i64c)
 rts : W.ownsRow 0 2 1 vr k (((t.trs.map Tn.rate).take k).flatMap i64c)
 pos : W.heap[b8]? = some (.cells #[.slice none 0 0, .int .i64 0, .int .i64 0] 32 (0, 0))
 spn : W.heap[b13]? = some (.cells #[.int .i64 0, .int .i64 0] 46 (0, 0))
 row : W.ownsRow 0 46 2 vS A.length (A.flatMap spc)
 lo : w.heap.size ≤ b8 ∧ w.heap.size ≤ b13 ∧ w.heap.size ≤ B ∧ ∀ g, vS.ownBlock = some g → w.heap.size ≤ g
 nv : ∀ g, vS.ownBlock = some g → g ≠ b13
 wl : ∀ g, vl.ownBlock = some g → w.heap.size ≤ g
 wb : ∀ g, vb.ownBlock = some g → w.heap.size ≤ g
 wr : ∀ g, vr.ownBlock = some g → w.heap.size ≤ g
 br : ∀ g, vb.ownBlock = some g → vr.ownBlock ≠ some g
 tn : vr.ownBlock ≠ some w.heap.size
 kp : Keeps (fun _ => False) w W
section
variable {w : World} {B b8 b13 : Nat} {t : Tm} {n : Nat} {vt : Value} {T : List Ev} {A : List (Int × Int)} {vS vl vb f0 f1 f2 vr : Value} {k : Nat} {W W' : World}
theorem PreR.keep0 (h : PreR w B b8 b13 t n vt T A vS vl vb f0 f1 f2 vr k W) (hk : Keeps (fun _ => False) W W') : PreR w B b8 b13 t n vt T A vS vl vb f0 f1 f2 vr k W' :=
 { h with
  blk := box_old h.blk hk (by simp)
  tb := h.tb.keep hk
  evs := h.evs.of_keeps hk
  bal := h.bal.of_keeps hk
  rts := h.rts.of_keeps hk
  pos := box_old h.pos hk (by simp)
  spn := box_old h.spn hk (by simp)
  row := h.row.of_keeps hk
  kp := h.kp.nt hk }
theorem PreR.app (h : PreR w B b8 b13 t n vt T A vS vl vb f0 f1 f2 vr k W) (hnB : ¬ B = w.heap.size) {x : Int} (hx : (t.trs.map Tn.rate)[k]? = some x) {v9 : Value} (hk : Keeps (fun i => vr.ownBlock = some i) W W') (hr : W'.ownsRow 0 2 1 v9 (k + 1) (((t.trs.map Tn.rate).take k ++ [x]).flatMap i64c))
  (hf : v9.ownBlock = vr.ownBlock ∨ ∃ g, v9.ownBlock = some g ∧ W.heap.size ≤ g) : PreR w B b8 b13 t n vt T A vS vl vb f0 f1 f2 v9 (k + 1) (W'.setCell ⟨B, 13, none⟩ v9) := by
 have nb : ∀ {e : TypeId} {b : Nat} {c : Array Value}, W.heap[b]? = some (.cells c e (0, 0)) → e ≠ 2 → ¬ vr.ownBlock = some b := fun hb hne => ownsRow_ne h.rts hb hne
 have nr : ∀ {e : TypeId} {sz m : Nat} {u : Value} {xs : List Value}, W.ownsRow 0 e sz u m xs → e ≠ 2 → ∀ b, u.ownBlock = some b → ¬ vr.ownBlock = some b := fun hr' hne b hb e => rows_ne hr' h.rts hne hb e
 have hB := box_old h.blk hk (nb h.blk (by decide))
 have kB : Keeps (fun i => i = B) W' (W'.setCell ⟨B, 13, none⟩ v9) := Keeps.setCell _ _ _ rfl
 have hne : ∀ {e : TypeId} {sz m : Nat} {v : Value} {xs : List Value}, W'.ownsRow 0 e sz v m xs → 94 ≠ e → ∀ i, v.ownBlock = some i → ¬ i = B := fun hr hne i hi e => by subst e; exact ownsRow_ne hr hB hne hi
 have nog : ∀ {e : TypeId} {g : Nat} {c : Array Value}, W'.heap[g]? = some (.cells c e (0, 0)) → 94 ≠ e → ¬ g = B := fun hg hne' e => by
  subst e
  rw [hB] at hg
  injection hg with h1
  injection h1 with _ h1 _
  exact absurd h1 hne'
 have hp := box_old h.pos hk (nb h.pos (by decide))
 have hs := box_old h.spn hk (nb h.spn (by decide))
 have he := hk.row h.evs (nr h.evs (by decide))
 have ho := hk.row h.row (nr h.row (by decide))
 have hbl := hk.row h.bal (fun b hb => h.br b hb)
 have hsz := h.kp.size
 refine ⟨(heap_setCell_same _ _ 13 _ _ _ hB).trans rfl, ?_, kB.row he (hne he (by decide)), kB.row hbl (hne hbl (by decide)), ?_, box_old hp kB (nog hp (by decide)), box_old hs kB (nog hs (by decide)), kB.row ho (hne ho (by decide)), h.lo, h.nv, h.wl, h.wb, fun g hg => ?_, fun g hg e => ?_, fun e => ?_, ?_⟩
 ·exact (h.tb.keepS hk h.tn).keepS kB (fun e => hnB (Eq.symm e))
 ·rw [take_snoc' hx]
  exact kB.row hr (hne hr (by decide))
 ·rcases hf with e | ⟨g', e, hh⟩
  ·exact h.wr g (e ▸ hg)
  ·rw [e] at hg; injection hg with hg; omega
 ·rcases hf with e' | ⟨g', e', hh⟩
  ·exact h.br g hg (e' ▸ e)
  ·rw [e'] at e; injection e with e; have := own_lt h.bal hg; omega
 ·rcases hf with e' | ⟨g', e', hh⟩
  ·exact h.tn (e' ▸ e)
  ·rw [e'] at e; injection e with e; have : w.heap.size < W.heap.size := cell_lt h.tb.1; omega
 ·exact (h.kp.trans (hk.mono fun i _ e => .inr (h.wr i e))).trans (kB.mono fun i _ e => .inr (by have e' : i = B := e; rw [e']; exact h.lo.2.2.1))
theorem PreR.start (hb : W.heap[B]? = some (.cells #[.int .i64 t.limit, vt, .int .i64 t.cyc, .int .i64 t.due, .int .i64 t.minFixed, .int .i64 t.minPart, .int .i64 t.start, vl, .int .i64 0, .int .i64 t.start, .slice none 0 0, .int .i64 0, .int .i64 0, .slice none 0 0, .slice none 0 0, .slice none 0 0, .slice none 0 0, f0, f1, f2] 94 (0, 0))) (htb : tbS w.heap.size t vt W) (he : W.ownsRow 0 54 5 vl T.length (T.flatMap Ev.cells))
  (hp : W.heap[b8]? = some (.cells #[.slice none 0 0, .int .i64 0, .int .i64 0] 32 (0, 0))) (hs : W.heap[b13]? = some (.cells #[.int .i64 0, .int .i64 0] 46 (0, 0))) (hr : W.ownsRow 0 46 2 vS A.length (A.flatMap spc)) (lo : w.heap.size ≤ b8 ∧ w.heap.size ≤ b13 ∧ w.heap.size ≤ B ∧ ∀ g, vS.ownBlock = some g → w.heap.size ≤ g) (nv : ∀ g, vS.ownBlock = some g → g ≠ b13) (wl : ∀ g, vl.ownBlock = some g → w.heap.size ≤ g)
  (hn : n ≤ maxLen) (hnB : B ≠ w.heap.size) (hk : Keeps (fun _ => False) w W) : PreR w B b8 b13 t n vt T A vS vl (.slice (some ⟨W.heap.size, 0, none⟩) n n) f0 f1 f2 (.slice none 0 0) 0 ((W.alloc (.cells (madeCells (Value.int .i64 0).cells n) 2)).setCell ⟨B, 10, none⟩ (.slice (some ⟨W.heap.size, 0, none⟩) n n)) := by
 have kA : Keeps (fun _ => False) W (W.alloc (.cells (madeCells (Value.int .i64 0).cells n) 2)) := Keeps.alloc _ _
 have kB : Keeps (fun i => i = B) (W.alloc (.cells (madeCells (Value.int .i64 0).cells n) 2)) ((W.alloc (.cells (madeCells (Value.int .i64 0).cells n) 2)).setCell ⟨B, 10, none⟩ (.slice (some ⟨W.heap.size, 0, none⟩) n n)) := Keeps.setCell _ _ _ rfl
 have hne : ∀ {e : TypeId} {sz m : Nat} {v : Value} {xs : List Value}, W.ownsRow 0 e sz v m xs → 94 ≠ e → ∀ i, v.ownBlock = some i → ¬ i = B := fun hr hne i hi e => by subst e; exact ownsRow_ne hr hb hne hi
 have nog : ∀ {e : TypeId} {g : Nat} {c : Array Value}, W.heap[g]? = some (.cells c e (0, 0)) → 94 ≠ e → ¬ g = B := fun hg hne' e => by
  subst e
  rw [hb] at hg
  injection hg with h1
  injection h1 with _ h1 _
  exact absurd h1 hne'
 have hbl := lt_of_block hb
 have hks := hk.size
 have hm := (RowZ.made W 2 n hn).1
 refine ⟨(heap_setCell_same _ _ 10 _ _ _ (box_alloc hb _)).trans rfl, (htb.keep kA).keepS kB (fun e => hnB (Eq.symm e)), kB.row (he.of_keeps kA) (hne he (by decide)), kB.row hm (fun i hi e => by simp [Value.ownBlock] at hi; have e' : i = B := e; omega), World.ownsRow_nil _ _ _ _, box_old (box_alloc hp _) kB (nog hp (by decide)), box_old (box_alloc hs _) kB (nog hs (by decide)), kB.row (hr.of_keeps kA) (hne hr (by decide)), lo, nv, wl, fun g hg => ?_, fun g hg => by simp [Value.ownBlock] at hg, fun g hg e => by simp [Value.ownBlock] at e, by simp [Value.ownBlock], ?_⟩
 ·simp [Value.ownBlock] at hg; omega
 ·exact (hk.nt kA).trans (kB.mono fun i _ e => .inr (by have e' : i = B := e; have := lo.2.2.1; omega))
theorem PreR.fin (h : PreR w B b8 b13 t n vt T A vS vl vb .nilFunc .nilFunc .nilFunc vr n W) (hn : t.trs.length = n) (hvt : Reads w 2 vt n (t.trs.flatMap Tn.cells)) (hvb : ∀ b, vt.ownBlock = some b → b < w.heap.size) {a b : Nat} (hB : W'.heap[B]? = some (.cells #[.int .i64 t.limit, vt, .int .i64 t.cyc, .int .i64 t.due, .int .i64 t.minFixed, .int .i64 t.minPart, .int .i64 t.start, vl, .int .i64 0, .int .i64 t.start, vb, .int .i64 0, .int .i64 0, vr, .slice (some ⟨a, 0, none⟩) n n, .slice (some ⟨b, 0, none⟩) n n, .slice none 0 0, .nilFunc, .nilFunc, .nilFunc] 94 (0, 0)))
  (ha : W'.heap[a]? = some (.cells ((List.replicate n si0).map SI.v).toArray 30 (0, 0))) (hb : W'.heap[b]? = some (.cells ((List.replicate n si0).map SI.v).toArray 30 (0, 0))) (la : W.heap.size ≤ a) (lb : W.heap.size ≤ b) (hab : a ≠ b) (hk : Keeps (fun i => i = B) W W') : DayW w B b8 b13 t n vt T A vS (st0 t) W' := by
 have hne : ∀ {e : TypeId} {sz m : Nat} {v : Value} {xs : List Value}, W.ownsRow 0 e sz v m xs → 94 ≠ e → ∀ i, v.ownBlock = some i → ¬ i = B := fun hr hne i hi e => by subst e; exact ownsRow_ne hr h.blk hne hi
 have nog : ∀ {e : TypeId} {g : Nat} {c : Array Value}, W.heap[g]? = some (.cells c e (0, 0)) → 94 ≠ e → ¬ g = B := fun hg hne' e => by
  subst e
  rw [h.blk] at hg
  injection hg with h1
  injection h1 with _ h1 _
  exact absurd h1 hne'
 have hnil : ∀ x ∈ List.replicate n si0, x = si0 := fun x hx => (List.mem_replicate.1 hx).2
 have hget : ∀ (j : Nat) (x : SI), (List.replicate n si0)[j]? = some x → x = si0 := fun j x hx => hnil x (List.mem_of_getElem? hx)
 obtain ⟨lo1, lo2, lo3, lo4⟩ := h.lo
 have hks := h.kp.size
 have nX : ∀ i, W.heap.size ≤ i → ¬ wkX b8 b13 vS i := fun i hi e => by
  rcases e with e | e | e
  ·have := lt_of_block h.pos; omega
  ·have := lt_of_block h.spn; omega
  ·have := own_lt h.row e; omega
 have nR : ∀ {e : TypeId} {sz m : Nat} {v : Value} {xs : List Value}, W.ownsRow 0 e sz v m xs → e ≠ 32 → e ≠ 46 → ∀ i, v.ownBlock = some i → ¬ wkX b8 b13 vS i := fun hr h1 h2 i hi e => by
  rcases e with e | e | e
  ·subst e; exact ownsRow_ne hr h.pos (Ne.symm h1) hi
  ·subst e; exact ownsRow_ne hr h.spn (Ne.symm h2) hi
  ·exact rows_ne h.row hr h2.symm e hi
 have nB : ¬ wkX b8 b13 vS B := fun e => by
  rcases e with e | e | e
  ·exact nog h.pos (by decide) e.symm
  ·exact nog h.spn (by decide) e.symm
  ·exact hne h.row (by decide) _ e rfl
 have hk0 : Keeps (fun _ => False) w W' := h.kp.trans (hk.mono fun i _ e => .inr (by have e' : i = B := e; omega))
 have hrt := h.rts
 rw [List.take_of_length_le (by rw [List.length_map]; omega)] at hrt
 refine ⟨⟨vl, vb, vr, a, b, List.replicate n si0, List.replicate n si0, .slice none 0 0, [], ?_⟩, box_old h.pos hk (nog h.pos (by decide)), ⟨0, 0, box_old h.spn hk (nog h.spn (by decide))⟩, hk.row h.row (hne h.row (by decide)), ⟨lo1, lo2, lo4⟩, h.nv⟩
 exact {
  blk := hB
  trs := hvt.keeps hk0 (by simp)
  evs := hk.row h.evs (hne h.evs (by decide))
  bal := by show W'.ownsRow 0 _ 1 vb n ((List.replicate t.trs.length (0 : Int)).flatMap i64c); rw [hn]; exact hk.row h.bal (hne h.bal (by decide))
  rts := hk.row hrt (hne hrt (by decide))
  o0 := ha
  o1 := hb
  i0 := fun x hx => by rw [hnil x hx]; exact World.ownsRow_nil _ _ _ _
  i1 := fun x hx => by rw [hnil x hx]; exact World.ownsRow_nil _ _ _ _
  out := World.ownsRow_nil _ _ _ _
  ln := fun x hx => by simp at hx
  l0 := by simp [si0, st0, hn]
  l1 := by simp [si0, st0, hn]
  lp := rfl
  n0 := by simp
  n1 := by simp
  nb := by simp [st0, hn]
  nr := by simp [st0, hn]
  d00 := fun j k x y hx hy _ b e => by rw [hget j x hx] at e; simp [si0, SI.v, Value.ownBlock] at e
  d11 := fun j k x y hx hy _ b e => by rw [hget j x hx] at e; simp [si0, SI.v, Value.ownBlock] at e
  d01 := fun x y hx hy b e => by rw [hnil x hx] at e; simp [si0, SI.v, Value.ownBlock] at e
  db0 := fun x hx b e => by rw [hnil x hx] at e; simp [si0, SI.v, Value.ownBlock] at e
  db1 := fun x hx b e => by rw [hnil x hx] at e; simp [si0, SI.v, Value.ownBlock] at e
  g01 := hab
  wB := ⟨lo3, nB⟩
  w0' := ⟨by omega, nX a la⟩
  w1' := ⟨by omega, nX b lb⟩
  wl := fun i hi => ⟨h.wl i hi, nR h.evs (by decide) (by decide) i hi⟩
  wb := fun i hi => ⟨h.wb i hi, nR h.bal (by decide) (by decide) i hi⟩
  wr := fun i hi => ⟨h.wr i hi, nR h.rts (by decide) (by decide) i hi⟩
  wo := fun i hi => by simp [Value.ownBlock] at hi
  wi0 := fun x hx b e => by rw [hnil x hx] at e; simp [si0, SI.v, Value.ownBlock] at e
  wi1 := fun x hx b e => by rw [hnil x hx] at e; simp [si0, SI.v, Value.ownBlock] at e
  wln := fun x hx => by simp at hx
  wt := fun i hi => ⟨hvb i hi, fun e => by
   have := hvb i hi
   rcases e with e | e | e
   ·omega
   ·omega
   ·have := lo4 i e; omega⟩
  xl := fun i e => by
   rcases e with e | e | e
   ·subst e; exact Nat.lt_of_lt_of_le (lt_of_block h.pos) hk.size
   ·subst e; exact Nat.lt_of_lt_of_le (lt_of_block h.spn) hk.size
   ·exact Nat.lt_of_lt_of_le (own_lt h.row e) hk.size
  yx := fun _ e => e
  fz := fun _ _ => rfl
  kp := hk0.mono (by simp) }
end
end Go.Proofs.Ythcmpcekmkioaaa
namespace Go.Proofs.Ythcmpcekmkioaaa
open Go.RowKit
def wkS (b : Nat) (t : Tm) (vt f0 f1 f2 : Value) (W : World) : Prop := tbS b t vt W ∧ W.cell? ⟨b + 1, 0, none⟩ = some f0 ∧ W.cell? ⟨b + 1, 1, none⟩ = some f1 ∧ W.cell? ⟨b + 1, 2, none⟩ = some f2
theorem wkS.keep {b : Nat} {t : Tm} {vt f0 f1 f2 : Value} {W W' : World} (h : wkS b t vt f0 f1 f2 W) (hk : Keeps (fun _ => False) W W') : wkS b t vt f0 f1 f2 W' :=
 ⟨h.1.keep hk, (hk.cell (cell_lt h.2.1) (by simp)).trans h.2.1, (hk.cell (cell_lt h.2.2.1) (by simp)).trans h.2.2.1, (hk.cell (cell_lt h.2.2.2) (by simp)).trans h.2.2.2⟩
structure WalkRes (w : World) (n : Nat) (s : St) (vb vr vo : Value) (P : List SV) (w' : World) : Prop where
 bal : w'.ownsRow 0 2 1 vb n (s.p.bal.flatMap i64c)
 rts : w'.ownsRow 0 2 1 vr n (s.R.flatMap i64c)
 out : w'.ownsRow 0 49 9 vo P.length (P.flatMap SV.cells)
 ln : ∀ x ∈ P, w'.ownsRow 0 56 3 x.v x.s.lines.length (x.s.lines.flatMap Ln.cells)
 lp : P.map SV.s = s.out
 nb : s.p.bal.length = n
 nr : s.R.length = n
 wb : ∀ b, vb.ownBlock = some b → w.heap.size ≤ b
 wr : ∀ b, vr.ownBlock = some b → w.heap.size ≤ b
 wo : ∀ b, vo.ownBlock = some b → w.heap.size ≤ b
 wl : ∀ x ∈ P, ∀ b, x.v.ownBlock = some b → w.heap.size ≤ b
 kp : Keeps (fun _ => False) w w'
def WalkPost (w : World) (n : Nat) (Z : St × Int) (e : Ending) (w' : World) : Prop := (Z.2 = 0 ∧ ∃ vb vr vo P, e = .returned (.tuple #[.agg #[vb, .int .i64 Z.1.p.cr, .int .i64 Z.1.p.du], vr, vo, .int .i64 0]) ∧ WalkRes w n Z.1 vb vr vo P w') ∨
 (Z.2 ≠ 0 ∧ e = .returned (.tuple #[.agg #[.slice none 0 0, .int .i64 0, .int .i64 0], .slice none 0 0, .slice none 0 0, .int .i64 Z.2]) ∧ Keeps (fun _ => False) w w')
def wkFr (td : Int) (b : Nat) (vS : Value) (B : Nat) (u : Nat → Value) : Act := { tmps := #[u 0, u 1, .int .i64 td, u 3, u 4, u 5, u 6, u 7, (.pointer (some ⟨b + 1 + 1, 0, none⟩)), u 9, u 10, u 11, vS, (.pointer (some ⟨b + 1 + 1 + 1, 0, none⟩)), (.pointer (some ⟨B, 0, none⟩)), u 15, u 16, u 17, u 18, u 19, u 20, u 21, u 22, u 23, u 24, u 25, u 26, u 27, u 28, u 29, u 30, u 31, u 32, u 33, u 34, u 35, u 36, u 37, u 38, u 39, u 40, u 41, u 42, u 43, u 44, u 45, u 46, u 47, u 48, u 49, u 50, u 51, u 52, u 53, u 54, u 55, u 56, u 57, u 58, u 59, u 60, u 61, u 62, u 63, u 64, u 65, u 66, u 67, u 68, u 69, u 70, u 71, u 72, u 73, u 74, u 75, u 76, u 77, u 78, u 79, u 80, u 81, u 82, u 83, u 84, u 85, u 86, u 87, u 88, u 89, u 90, u 91, u 92, u 93, u 94, u 95, u 96, u 97, u 98, u 99, u 100, u 101, u 102, u 103, u 104, u 105, u 106, u 107, u 108, u 109, u 110, u 111, u 112, u 113, u 114, u 115, u 116, u 117, u 118, u 119], defers := [] }
def wk0Fr (b : Nat) (e : Int) (u : Nat → Value) : Act := { tmps := #[u 0, u 1, u 2, u 3, u 4, u 5, u 6, u 7, (.pointer (some ⟨b + 1 + 1, 0, none⟩)), u 9, u 10, u 11, u 12, u 13, u 14, .int .i64 e, u 16, u 17, u 18, u 19, u 20, u 21, u 22, u 23, u 24, u 25, u 26, u 27, u 28, u 29, u 30, u 31, u 32, u 33, u 34, u 35, u 36, u 37, u 38, u 39, u 40, u 41, u 42, u 43, u 44, u 45, u 46, u 47, u 48, u 49, u 50, u 51, u 52, u 53, u 54, u 55, u 56, u 57, u 58, u 59, u 60, u 61, u 62, u 63, u 64, u 65, u 66, u 67, u 68, u 69, u 70, u 71, u 72, u 73, u 74, u 75, u 76, u 77, u 78, u 79, u 80, u 81, u 82, u 83, u 84, u 85, u 86, u 87, u 88, u 89, u 90, u 91, u 92, u 93, u 94, u 95, u 96, u 97, u 98, u 99, u 100, u 101, u 102, u 103, u 104, u 105, u 106, u 107, u 108, u 109, u 110, u 111, u 112, u 113, u 114, u 115, u 116, u 117, u 118, u 119], defers := [] }
def ptB (a : Act) : Nat := match a.tmps.getD 14 undef with | .pointer (some ⟨b, _, _⟩) => b | _ => 0
def wkJ0 (w : World) (R : St × Int) (a' : Act) (W : World) : Prop := ∃ (e : Int) (u : Nat → Value), a' = wk0Fr w.heap.size e u ∧ W.heap[w.heap.size + 1 + 1]? = some (.cells #[.slice none 0 0, .int .i64 0, .int .i64 0] 32 (0, 0)) ∧ Keeps (fun _ => False) w W ∧ e ≠ 0 ∧ R.2 = e
def wkJ1 (w : World) (t : Tm) (n : Nat) (vt : Value) (T : List Ev) (td : Int) (A : List (Int × Int)) (R : St × Int) (z : Int) (a' : Act) (W : World) : Prop := z = 0 ∧ ∃ (s : St) (B : Nat) (vS : Value) (u : Nat → Value), a' = wkFr td w.heap.size vS B u ∧ DayW w B (w.heap.size + 1 + 1) (w.heap.size + 1 + 1 + 1) t n vt T A vS s W ∧ DayP t T n td A s R
theorem wkJ0.mk {w : World} {R : St × Int} {a' : Act} {W : World} (e : Int) (h : a' = wk0Fr w.heap.size e (fun i => a'.tmps.getD i undef)) (h1 : W.heap[w.heap.size + 1 + 1]? = some (.cells #[.slice none 0 0, .int .i64 0, .int .i64 0] 32 (0, 0))) (h2 : Keeps (fun _ => False) w W) (h3 : e ≠ 0) (h4 : R.2 = e) : wkJ0 w R a' W := ⟨e, _, h, h1, h2, h3, h4⟩
theorem wkJ1.mk {w : World} {t : Tm} {n : Nat} {vt : Value} {T : List Ev} {td : Int} {A : List (Int × Int)} {R : St × Int} {z : Int} {a' : Act} {W : World} (s : St) (B : Nat) (vS : Value) (hz : z = 0) (h : a' = wkFr td w.heap.size vS B (fun i => a'.tmps.getD i undef)) (h1 : DayW w B (w.heap.size + 1 + 1) (w.heap.size + 1 + 1 + 1) t n vt T A vS s W) (h2 : DayP t T n td A s R) : wkJ1 w t n vt T td A R z a' W := ⟨hz, s, B, vS, _, h, h1, h2⟩
theorem flatMap_len : ∀ M : List Tn, (M.flatMap Tn.cells).length = M.length * 2
 | [] => rfl
 | x :: M => by rw [List.flatMap_cons, List.length_append, flatMap_len M, Tn.cells_length, List.length_cons]; omega
def r11S (B b : Nat) (vr : Value) (x : Int) (W : World) : Prop := W.cell? ⟨B, 13, none⟩ = some vr ∧ W.cell? ⟨b, 0, none⟩ = some (.int .i64 x)
theorem r11S.keep {B b : Nat} {vr : Value} {x : Int} {S : Nat → Prop} {W W' : World} (h : r11S B b vr x W) (hk : Keeps S W W') (h1 : ¬ S B) (h2 : ¬ S b) : r11S B b vr x W' := ⟨(hk.cell (cell_lt h.1) h1).trans h.1, (hk.cell (cell_lt h.2) h2).trans h.2⟩
def w20S (b13 B : Nat) (te sd : Int) (W : World) : Prop := W.cell? ⟨b13, 1, none⟩ = some (.int .i64 te) ∧ W.cell? ⟨B, 9, none⟩ = some (.int .i64 sd)
def w17S (B : Nat) (vb : Value) (cr du : Int) (vr vo : Value) (W : World) : Prop := W.cell? ⟨B, 10, none⟩ = some vb ∧ W.cell? ⟨B, 11, none⟩ = some (.int .i64 cr) ∧ W.cell? ⟨B, 12, none⟩ = some (.int .i64 du) ∧ W.cell? ⟨B, 13, none⟩ = some vr ∧ W.cell? ⟨B, 16, none⟩ = some vo
theorem w17S.keep {B : Nat} {vb vr vo : Value} {cr du : Int} {S : Nat → Prop} {W W' : World} (h : w17S B vb cr du vr vo W) (hk : Keeps S W W') (hB : ¬ S B) : w17S B vb cr du vr vo W' := by
 obtain ⟨h1, h2, h3, h4, h5⟩ := h
 exact ⟨(hk.cell (cell_lt h1) hB).trans h1, (hk.cell (cell_lt h2) hB).trans h2, (hk.cell (cell_lt h3) hB).trans h3, (hk.cell (cell_lt h4) hB).trans h4, (hk.cell (cell_lt h5) hB).trans h5⟩
theorem walkRes_of {w : World} {X : Fx} {B b8 : Nat} {t : Tm} {n : Nat} {vt : Value} {T : List Ev} {f0 f1 f2 : Value} {s : St} {vl vb vr : Value} {g0 g1 : Nat} {S0 S1 : List SI} {vo : Value} {P : List SV} {W W' : World} (h : RunV w X B t n vt T f0 f1 f2 s vl vb vr g0 g1 S0 S1 vo P W) (hk : Keeps (fun i => i = b8) W W') (hX : X.X b8) (hb8 : w.heap.size ≤ b8) (hkw : Keeps (fun _ => False) w W) : WalkRes w n s vb vr vo P W' where
 bal := hk.row h.bal fun b hb e => by have e' : b = b8 := e; exact (h.wb b hb).2 (e' ▸ hX)
 rts := hk.row h.rts fun b hb e => by have e' : b = b8 := e; exact (h.wr b hb).2 (e' ▸ hX)
 out := hk.row h.out fun b hb e => by have e' : b = b8 := e; exact (h.wo b hb).2 (e' ▸ hX)
 ln := fun x hx => hk.row (h.ln x hx) fun b hb e => by have e' : b = b8 := e; exact (h.wln x hx b hb).2 (e' ▸ hX)
 lp := h.lp
 nb := h.nb
 nr := h.nr
 wb := fun b hb => (h.wb b hb).1
 wr := fun b hb => (h.wr b hb).1
 wo := fun b hb => (h.wo b hb).1
 wl := fun x hx b hb => (h.wln x hx b hb).1
 kp := hkw.trans (hk.mono fun i _ e => .inr (by have e' : i = b8 := e; omega))
set_option maxRecDepth 100000 in
set_option maxHeartbeats 3200000 in
theorem repWalk_any (t : Tm) (adt : Option Addr) (ct n : Nat) (L : List Ev) (ad : Option Addr) (cap N : Nat) (td : Int) (f0 f1 f2 : Value) (w : World) (hn : t.trs.length = n) (htr : Reads w 2 (.slice adt n ct) n (t.trs.flatMap Tn.cells)) (hN : L.length = N) (hr : Reads w 5 (.slice ad N cap) N (L.flatMap Ev.cells)) (hl : N ≤ 1000000) (htl : n ≤ 1000000)
  (hf : repErr t L td = 0 → f0 = .nilFunc ∧ f1 = .nilFunc ∧ f2 = .nilFunc) :
  Calls Try.prog 26 #[.agg #[.int .i64 t.limit, .slice adt n ct, .int .i64 t.cyc, .int .i64 t.due, .int .i64 t.minFixed, .int .i64 t.minPart, .int .i64 t.start], .slice ad N cap, .int .i64 td, .agg #[f0, f1, f2]] w (WalkPost w n (walkR t L td)) := by
 have hsrt := fun W (hW : Keeps (fun _ => False) w W) => datSort_any (.slice ad N cap) L W (by rw [hN]; exact hr.keeps hW (by simp)) (by omega)
 have hrgt := fun W (hW : Keeps (fun _ => False) w W) => repRight_any t adt ct n L ad cap N td W hn (htr.keeps hW (by simp)) hN (hr.keeps hW (by simp)) hl htl
 obtain ⟨w4, hw4⟩ : ∃ x, x = (((w.alloc (.cells #[.int .i64 t.limit, .slice adt n ct, .int .i64 t.cyc, .int .i64 t.due, .int .i64 t.minFixed, .int .i64 t.minPart, .int .i64 t.start] 24)).alloc (.cells #[f0, f1, f2] 75)).alloc (.cells #[.slice none 0 0, .int .i64 0, .int .i64 0] 32)).alloc (.cells #[.int .i64 0, .int .i64 0] 46) := ⟨_, rfl⟩
 have hS4 : ∀ W, Keeps (fun _ => False) w4 W → wkS w.heap.size t (.slice adt n ct) f0 f1 f2 W := fun W hW => by
  have h1 := box_old (box_alloc (box_alloc (halloc_at2 (w.alloc (.cells #[.int .i64 t.limit, .slice adt n ct, .int .i64 t.cyc, .int .i64 t.due, .int .i64 t.minFixed, .int .i64 t.minPart, .int .i64 t.start] 24)) (.cells #[f0, f1, f2] 75) (i := w.heap.size + 1) (by simp)) (.cells #[.slice none 0 0, .int .i64 0, .int .i64 0] 32)) (.cells #[.int .i64 0, .int .i64 0] 46)) (hw4 ▸ hW) (by simp)
  exact ⟨tbS.of (box_old (box_alloc (box_alloc (box_alloc (heap_alloc_new w _) _) _) _) (hw4 ▸ hW) (by simp)), cell_of_cells h1 0, cell_of_cells h1 1, cell_of_cells h1 2⟩
 have hk4 : Keeps (fun _ => False) w w4 := by rw [hw4]; exact ((Keeps.alloc _ _).trans_alloc).trans_alloc.trans_alloc
 have hp4 : w4.heap[w.heap.size + 2]? = some (.cells #[.slice none 0 0, .int .i64 0, .int .i64 0] 32 (0, 0)) := by rw [hw4]; exact box_alloc (halloc_at2 _ _ (by simp)) _
 have hs4 : w4.heap[w.heap.size + 3]? = some (.cells #[.int .i64 0, .int .i64 0] 46 (0, 0)) := by rw [hw4]; exact halloc_at2 _ _ (by simp)
 obtain ⟨z, hz⟩ : ∃ z, repErr t L td = z := ⟨_, rfl⟩
 obtain ⟨R, hR⟩ : ∃ R, walkR t L td = R := ⟨_, rfl⟩
 obtain ⟨A, hA⟩ : ∃ A, allL t.start t.cyc td = A := ⟨_, rfl⟩
 have hR' := hR
 unfold walkR at hR'
 rw [hz] at hR' hf hrgt
 rw [hA] at hR'
 rw [hR]
 obtain ⟨Htr, Hr, Hsrt, Hrgt, HS4, Hk4, Hp4, Hs4, HR⟩ := hid9 htr hr hsrt hrgt hS4 hk4 hp4 hs4 hR; clear hR hs4 hp4 hk4 hS4 hrgt hsrt hr htr; obtain ⟨HR', Hf, HN, Hn, Hz⟩ := hid5 hR' hf hN hn hz; clear hz hn hN hf hR'
 go_enter Try.func26, Try.ntmps26
 go_wp2
 refine wp_scope_back2 1 0 (wkJ1 w t n (.slice adt n ct) (sortL L) td A R z) (wkJ0 w R) (fun a W => (td + 1 - cellInt W (ptB a) 9).toNat) (fun _ _ => 0) rfl rfl ?_ ?_ ?_
 ·rintro a' W ⟨e, u, rfl, hb, hk, he, hRe⟩
  unfold wk0Fr
  have d0 := cell_of_cells hb 0
  have d1 := cell_of_cells hb 1
  have d2 := cell_of_cells hb 2
  have e0 := free_of_cells hb 0
  have e1 := free_of_cells hb 1
  have e2 := free_of_cells hb 2
  have dl := lt_of_block hb
  have hkz := hk.trans ((((Keeps.setCell (S := fun i => w.heap.size ≤ i) W ⟨w.heap.size + 1 + 1, 0, none⟩ (.slice none 0 0) (by simp; omega)).trans (Keeps.setCell _ ⟨w.heap.size + 1 + 1, 1, none⟩ (.int .i64 0) (.inl (by simp; omega)))).trans (Keeps.setCell _ ⟨w.heap.size + 1 + 1, 2, none⟩ (.int .i64 0) (.inl (by simp; omega)))).mono fun i _ h => .inr h)
  have hb3 : (((W.setCell ⟨w.heap.size + 1 + 1, 0, none⟩ (.slice none 0 0)).setCell ⟨w.heap.size + 1 + 1, 1, none⟩ (.int .i64 0)).setCell ⟨w.heap.size + 1 + 1, 2, none⟩ (.int .i64 0)).heap[w.heap.size + 1 + 1]? = some (.cells #[.slice none 0 0, .int .i64 0, .int .i64 0] 32 (0, 0)) := (heap_setCell_same _ _ 2 _ _ _ ((heap_setCell_same _ _ 1 _ _ _ ((heap_setCell_same _ _ 0 _ _ _ hb).trans rfl)).trans rfl)).trans rfl
  obtain ⟨Hb, Hk, He, HRe, Hkz, Hb3⟩ := hid6 hb hk he hRe hkz hb3; clear hb3 hkz hRe he hk hb
  go_wp2
  refine jump2_ret ?_
  have r0 := cell_of_cells Hb3.out 0
  have r1 := cell_of_cells Hb3.out 1
  have r2 := cell_of_cells Hb3.out 2
  clear d0 d1 d2
  exact bodyPost_ret (v := .tuple #[.agg #[.slice none 0 0, .int .i64 0, .int .i64 0], .slice none 0 0, .slice none 0 0, .int .i64 e]) (by simp [results, Try.results26, go_sem, r0, r1, r2]) rfl (.inr ⟨by rw [HRe.out]; exact He.out, by rw [HRe.out], Hkz.out⟩)
 ·intro hp0
  rintro a' W ⟨hz0, s, B, vS, u, rfl, hd, hp⟩
  unfold wkFr
  obtain ⟨rfl, rfl, rfl⟩ := Hf.out hz0
  obtain ⟨vl, vb, vr, g0, g1, S0, S1, vo, P, hrv⟩ := hd.run
  obtain ⟨Z, hZ⟩ : ∃ Z, evR s.day ((sortL L).drop s.i) s.i s.p s.R = Z := ⟨_, rfl⟩
  have hrok := repErr_ok (Hz.out.trans hz0)
  have hnum := tm_nums hrok.tm
  rw [Hn.out] at hnum
  obtain ⟨⟨l0, l1⟩, _⟩ := hnum
  have hn1 : n ≤ 1000 := by omega
  have hev := runEvents_nil hrv hn1 (by rw [sortL_length, HN.out]; exact hl) hp.i Z hZ
  have hbd := lt_of_block hrv.blk
  obtain ⟨E, hE⟩ : ∃ E, Z.2.2.2 = E := ⟨_, rfl⟩
  rw [hE] at hev
  have hperr := hp.err
  rw [hZ, hE] at hperr
  have hmeas : cellInt W B 9 < td + 1 := by rw [cellInt_of (cell_of_cells hrv.blk 9)]; have := hp.dt; omega
  by_cases hE0 : E = 0
  ·subst hE0
   obtain ⟨sd, hsd⟩ : ∃ x, s.day = x := ⟨_, rfl⟩
   by_cases hday : s.day = td
   ·have hlast := hp.last hday
    rw [hZ, hE] at hlast
    obtain ⟨Hd, Hp, Hrv, HZ, Hev, HE, Hperr, Hlast, Hmeas⟩ := hid9 hd hp hrv hZ hev hE hperr hlast hmeas; clear hmeas hlast hperr hE hev hZ hrv hp hd; obtain ⟨Hday, Hrok, L0⟩ := hid3 hday hrok l0; clear l0 hrok hday
    go_wp2_with fail
    refine (Hev.out).mono ?_
    rintro e w1 ⟨rfl, vb', vr', hr1⟩
    obtain ⟨ab, cb, rfl⟩ : ∃ a c, vb' = .slice a n c := by obtain ⟨a, c, h, _⟩ := ownsRow_shape hr1.bal; exact ⟨a, c, h⟩
    have hd1 := Hd.out.call hr1
    have c9 : w1.cell? ⟨B, 9, none⟩ = some (.int .i64 sd) := by rw [← hsd]; exact cell_of_cells hr1.blk 9
    have bl := lt_of_block hr1.blk
    obtain ⟨Hr1, Hd1⟩ := hid2 hr1 hd1; clear hd1 hr1
    have hdI : (sd == td) = true := by rw [← hsd, Hday.out]; simp
    go_wp2_with fail
    obtain ⟨pc, hpc⟩ : ∃ x, (evSt s Z).p.cr = x := ⟨_, rfl⟩
    obtain ⟨pd, hpd⟩ : ∃ x, (evSt s Z).p.du = x := ⟨_, rfl⟩
    have hS1 : w17S B (.slice ab n cb) pc pd vr' vo w1.drew := by
     rw [← hpc, ← hpd]
     exact (show w17S B (.slice ab n cb) (evSt s Z).p.cr (evSt s Z).p.du vr' vo w1 from ⟨cell_of_cells Hr1.out.blk 10, cell_of_cells Hr1.out.blk 11, cell_of_cells Hr1.out.blk 12, cell_of_cells Hr1.out.blk 13, cell_of_cells Hr1.out.blk 16⟩).keep (S := fun _ => False) (Keeps.drew _) (by simp)
    have hBX : ¬ B = w.heap.size + 1 + 1 := fun e => Hr1.out.wB.2 (.inl e)
    obtain ⟨Hpc, Hpd, HS1⟩ := hid3 hpc hpd hS1; clear hS1 hpd hpc
    clear c9
    refine wp_region_mixw (w17S B (.slice ab n cb) pc pd vr' vo) (.take 0 (.take 1 (.take 2 (.take 3 (.take 4 (.take 5 (.take 6 (.take 7 (.take 8 (.take 9 (.take 10 (.take 11 (.move 12 (.take 13 (.take 14 (.take 15 .done)))))))))))))))) (by kernel_rfl) (by kernel_rfl) ?_ ?_
    ·exact HS1.out
    intro w2 hs2 hk2
    have hd2 := Hd.out.call (Hr1.out.keep0 hk2)
    have hr2 := Hr1.out.keep0 hk2
    have e0 := free_of_cells hd2.pos 0
    have e1 := free_of_cells hd2.pos 1
    have e2 := free_of_cells hd2.pos 2
    have d0 := cell_of_cells hd2.pos 0
    have d1 := cell_of_cells hd2.pos 1
    have d2 := cell_of_cells hd2.pos 2
    have dl := lt_of_block hd2.pos
    repeat (first
     | (refine mix_skip rfl (by rfl) ?_; try simp only [Act.put, List.setIfInBounds_toArray, List.set_cons_zero, List.set_cons_succ])
     | (refine mix_skipm rfl (by rfl) ?_; try simp only [Act.put, List.setIfInBounds_toArray, List.set_cons_zero, List.set_cons_succ])
     | (refine mix_take (v := ?_) rfl (by rfl) ?_ ?_; rotate_left; (· intro w' hSw; unfold w17S at hSw; go_simp; (try with_reducible rfl)); rotate_right; try simp only [Act.put, List.setIfInBounds_toArray, List.set_cons_zero, List.set_cons_succ]))
    have hkz : Keeps (fun i => i = w.heap.size + 1 + 1) w2 (((w2.setCell ⟨w.heap.size + 1 + 1, 0, none⟩ (.slice ab n cb)).setCell ⟨w.heap.size + 1 + 1, 1, none⟩ (.int .i64 pc)).setCell ⟨w.heap.size + 1 + 1, 2, none⟩ (.int .i64 pd)) := ((Keeps.setCell (S := fun i => i = w.heap.size + 1 + 1) _ _ _ rfl).trans (Keeps.setCell _ _ _ (.inl rfl))).trans (Keeps.setCell _ _ _ (.inl rfl))
    have hb3 : (((w2.setCell ⟨w.heap.size + 1 + 1, 0, none⟩ (.slice ab n cb)).setCell ⟨w.heap.size + 1 + 1, 1, none⟩ (.int .i64 pc)).setCell ⟨w.heap.size + 1 + 1, 2, none⟩ (.int .i64 pd)).heap[w.heap.size + 1 + 1]? = some (.cells #[.slice ab n cb, .int .i64 pc, .int .i64 pd] 32 (0, 0)) := (heap_setCell_same _ _ 2 _ _ _ ((heap_setCell_same _ _ 1 _ _ _ ((heap_setCell_same _ _ 0 _ _ _ hd2.pos).trans rfl)).trans rfl)).trans rfl
    have hres := walkRes_of hr2 hkz (.inl rfl) (by omega) hd2.keeps
    obtain ⟨Hkz, Hb3, Hres, Hr2, Hd2, Hk2⟩ := hid6 hkz hb3 hres hr2 hd2 hk2; clear hk2 hd2 hr2 hres hb3 hkz
    refine mix_move rfl (fun K hK => ?_)
    go_simp
    refine hK.out _ _ (by exact hs2.keep Hkz.out hBX) ?_
    clear hK K
    try simp only [Act.put, List.setIfInBounds_toArray, List.set_cons_zero, List.set_cons_succ]
    repeat (first
     | (refine mix_skip rfl (by rfl) ?_; try simp only [Act.put, List.setIfInBounds_toArray, List.set_cons_zero, List.set_cons_succ])
     | (refine mix_skipm rfl (by rfl) ?_; try simp only [Act.put, List.setIfInBounds_toArray, List.set_cons_zero, List.set_cons_succ])
     | (refine mix_take (v := ?_) rfl (by rfl) ?_ ?_; rotate_left; (· intro w' hSw; unfold w17S at hSw; go_simp; (try with_reducible rfl)); rotate_right; try simp only [Act.put, List.setIfInBounds_toArray, List.set_cons_zero, List.set_cons_succ]))
    refine mix_done ?_
    clear d0 d1 d2 e0 e1 e2 hs2
    go_wp2
    refine jump2_ret ?_
    have r0 := cell_of_cells Hb3.out 0
    have r1 := cell_of_cells Hb3.out 1
    have r2 := cell_of_cells Hb3.out 2
    exact bodyPost_ret (v := .tuple #[.agg #[.slice ab n cb, .int .i64 pc, .int .i64 pd], vr', vo, .int .i64 0]) (by simp [results, Try.results26, go_sem, r0, r1, r2]) rfl (.inl ⟨by rw [Hlast.out], .slice ab n cb, vr', vo, P, by rw [Hlast.out, ← Hpc.out, ← Hpd.out], by rw [Hlast.out]; exact Hres.out⟩)
   ·obtain ⟨fr, te, hget, hsok, hst1, hfr, hte, hlt, hg1, hg2, hg3⟩ := hp.go (by rw [hZ]; exact hE) hday hrok.tm Hn.out
    rw [hZ] at hst1 hg1 hg2 hg3
    rw [hsd] at hg1 hg2 hg3 hfr hte
    have hsd0 : -135140 ≤ sd := by have := hsok.lo; omega
    have hsd1 : sd ≤ 2932896 := by have := hsok.hi; omega
    obtain ⟨_, _, _, _, hsok0, _, hfr0, hte0, hs0, _⟩ := hp.sp
    have hlen0 : ∀ r ∈ (evSt s Z).e0, r.length ≤ 100000 := fun r hr => by have := (hs0.m0 r hr).1; have := hsok0.sh; omega
    have hlen1 : ∀ r ∈ (evSt s Z).e1, r.length ≤ 100000 := fun r hr => by have := (hs0.m1 r hr).1; have := hsok0.sh; omega
    obtain ⟨g, o, cS, hvS, _⟩ := (Reads.of_owns hd.row).elem (f := spc) (size := 2) (fun p => rfl) hget (by decide)
    subst hvS
    obtain ⟨s2, hs2⟩ : ∃ x, endSt (evSt s Z) n n = x := ⟨_, rfl⟩
    have hs2d : s2.day = sd := by rw [← hs2]; exact hsd
    have hs2o : s2.out = s.out := by rw [← hs2]; rfl
    rw [hs2] at hst1 hg1 hg2 hg3
    obtain ⟨C, hC⟩ : ∃ C, closeS t (sortL L) n s2 fr te = C := ⟨_, rfl⟩
    rw [hC] at hg2 hg3
    have hdI : (sd == td) = false := beq_eq_false_iff_ne.2 (by rw [← hsd]; exact hday)
    obtain ⟨mA, hmA⟩ : ∃ x, A.length = x := ⟨_, rfl⟩
    rw [hmA] at hlt hd hrv hev ⊢
    obtain ⟨mo, hmo⟩ : ∃ x, P.length = x := ⟨_, rfl⟩
    obtain ⟨av, cv, rfl⟩ : ∃ a c, vo = .slice a mo c := by obtain ⟨a, c, h, _⟩ := ownsRow_shape hrv.out; rw [hmo] at h; exact ⟨a, c, h⟩
    have hmo2 : s.out.length = mo := by rw [← hrv.lp, List.length_map]; exact hmo
    rw [hmo2] at hlt hget
    have hltI : (mo : Int) < (mA : Int) := by omega
    have hmA3 : mA ≤ 300 := by rw [← hmA, ← hA]; exact allL_length _ _ _
    obtain ⟨Hd, Hp, Hrv, HZ, Hev, HE, Hperr, Hmeas, Hday⟩ := hid9 hd hp hrv hZ hev hE hperr hmeas hday; clear hday hmeas hperr hE hev hZ hrv hp hd; obtain ⟨Hrok, L0, Hget, Hsok, Hst1, Hfr, Hte, Hg1, Hg2⟩ := hid9 hrok l0 hget hsok hst1 hfr hte hg1 hg2; clear hg2 hg1 hte hfr hst1 hsok hget l0 hrok; obtain ⟨Hg3, Hs0, Hsok0, Hfr0, Hte0, Hlen0, Hlen1, Hs2, Hs2d⟩ := hid9 hg3 hs0 hsok0 hfr0 hte0 hlen0 hlen1 hs2 hs2d; clear hs2d hs2 hlen1 hlen0 hte0 hfr0 hsok0 hs0 hg3; obtain ⟨Hs2o, HC, HmA, Hmo, Hmo2⟩ := hid5 hs2o hC hmA hmo hmo2; clear hmo2 hmo hmA hC hs2o
    go_wp2_with fail
    refine (Hev.out).mono ?_
    rintro e w1 ⟨rfl, vb', vr', hr1⟩
    have c9 : w1.cell? ⟨B, 9, none⟩ = some (.int .i64 sd) := by rw [← hsd]; exact cell_of_cells hr1.blk 9
    have bl := lt_of_block hr1.blk
    have hend := runEnd_nil hr1 hn1 Hlen0.out Hlen1.out
    rw [Hs2.out] at hend
    obtain ⟨Hr1, Hend⟩ := hid2 hr1 hend; clear hend hr1
    go_wp2_with fail
    refine (Hend.out).mono ?_
    rintro e w2 ⟨rfl, S0', S1', hr2⟩
    have hd2 := Hd.out.call hr2
    obtain ⟨g', o', c', he', hc'⟩ := (Reads.of_owns hd2.row).elem (f := spc) (size := 2) (fun p => rfl) Hget.out (by decide)
    rw [HmA.out] at he'
    simp only [Value.slice.injEq, true_and, Option.some.injEq, Addr.mk.injEq, and_true] at he'
    obtain ⟨⟨rfl, rfl⟩, rfl⟩ := he'
    have x0 : w2.cell? ⟨g, o + mo * 2, none⟩ = some (.int .i64 fr) := hc' 0 (by decide)
    have x1 : w2.cell? ⟨g, o + mo * 2 + 1, none⟩ = some (.int .i64 te) := hc' 1 (by decide)
    have c16 := cell_of_cells hr2.blk 16
    have bl2 := lt_of_block hr2.blk
    obtain ⟨sx, sy, hsn⟩ := hd2.spn
    have d0 := cell_of_cells hsn 0
    have d1 := cell_of_cells hsn 1
    have e0 := free_of_cells hsn 0
    have e1 := free_of_cells hsn 1
    have dl := lt_of_block hsn
    obtain ⟨hd3, hsn3⟩ := hd2.span fr te
    clear c9 bl hc'
    obtain ⟨Hr2, Hd2, Hsn, Hd3, Hsn3⟩ := hid5 hr2 hd2 hsn hd3 hsn3; clear hsn3 hd3 hsn hd2 hr2
    go_wp2_with fail
    clear x0 x1 c16 bl2 d0 d1 e0 e1 dl
    obtain ⟨w3, hw3⟩ : ∃ x, x = ((w2.setCell ⟨w.heap.size + 1 + 1 + 1, 0, none⟩ (.int .i64 fr)).setCell ⟨w.heap.size + 1 + 1 + 1, 1, none⟩ (.int .i64 te)) := ⟨_, rfl⟩
    rw [← hw3] at Hd3 Hsn3 ⊢
    clear hw3
    have hS3 : w20S (w.heap.size + 1 + 1 + 1) B te sd w3.drew := ⟨cell_of_cells Hsn3.out 1, by
     obtain ⟨_, _, _, _, _, _, _, _, _, h⟩ := Hd3.out.run
     rw [← Hs2d.out]; exact cell_of_cells h.blk 9⟩
    have HS3 := Lib.hid hS3; clear hS3
    refine wp_region_mixw (w20S (w.heap.size + 1 + 1 + 1) B te sd) (.take 0 (.take 1 (.take 2 (.take 3 (.take 4 (.take 5 (.take 6 .done))))))) (by kernel_rfl) (by kernel_rfl) ?_ ?_
    ·exact HS3.out
    intro w4 hs4 hk4
    repeat (first
     | (refine mix_skip rfl (by rfl) ?_; try simp only [Act.put, List.setIfInBounds_toArray, List.set_cons_zero, List.set_cons_succ])
     | (refine mix_skipm rfl (by rfl) ?_; try simp only [Act.put, List.setIfInBounds_toArray, List.set_cons_zero, List.set_cons_succ])
     | (refine mix_take (v := ?_) rfl (by rfl) ?_ ?_; rotate_left; (· intro w' hSw; unfold w20S at hSw; go_simp; (try with_reducible rfl)); rotate_right; try simp only [Act.put, List.setIfInBounds_toArray, List.set_cons_zero, List.set_cons_succ]))
    refine mix_done ?_
    have hd4 := Hd3.out.keep0 hk4
    have hsn4 := box_old Hsn3.out hk4 (by simp)
    have hcs : cellInt W B 9 = sd := by rw [← hsd]; exact cellInt_of Hd.out.c9.1
    clear hs4
    by_cases hte0 : te = sd
    ·have hteI : (te == sd) = true := by simp [hte0]
     have d0 := cell_of_cells hsn4 0
     have d1 := cell_of_cells hsn4 1
     have dl := lt_of_block hsn4
     obtain ⟨vl4, vb4, vr4, g40, g41, S40, S41, vo4, P4, hr4⟩ := hd4.run
     have hst2 := Hst1.out
     have hle40 : (s.day - fr).toNat + 1 ≤ 40000 := by have := Hsok.out.sh; have := Hte.out; rw [hsd]; omega
     have hcl := runClose_nil hr4 Hrok.out.tm Hn.out (by rw [sortL_length, HN.out]; exact hl) (fun x hx => evErr_amt (Hrok.out.ev x ((sortL_spec L).2.mem hx))) hst2.pr hst2.rt (fun r hr => (hst2.m0 r hr).2) (fun r hr => (hst2.m1 r hr).2) (hst2.lens hle40) (by rw [Hs2o.out, Hmo2.out]; omega) fr te ⟨Hsok.out.lo, Hsok.out.le, Hsok.out.hi⟩ C HC.out
     rcases C with _ | s'
     ·have hR5 := Hg2.out hte0 rfl
      obtain ⟨Hd4, Hsn4, Hcs, Hr4, Hst2, Hle40, Hcl, HR5, Hte0⟩ := hid9 hd4 hsn4 hcs hr4 hst2 hle40 hcl hR5 hte0; clear hte0 hR5 hcl hle40 hst2 hr4 hcs hsn4 hd4
      go_wp2_with fail
      refine (Hcl.out).mono ?_
      rintro e w5 ⟨rfl, hr5⟩
      have hd5 := Hd4.out.call hr5
      obtain ⟨Hr5, Hd5⟩ := hid2 hr5 hd5; clear hd5 hr5
      go_wp2_with fail
      go_step3
      go_wp2
      refine jump2_2 ⟨wkJ0.mk 5 rfl Hd5.out.pos Hd5.out.keeps (by decide) HR5.out, ?_⟩
      show _ < td + 1
      exact Hmeas.out
     ·have hp5 := Hg3.out hte0 s' rfl
      obtain ⟨_, _, _, hs5⟩ := closeS_ok Hrok.out.tm Hn.out hst2 HC.out
      rw [Hs2d.out] at hs5
      obtain ⟨Hd4, Hsn4, Hcs, Hr4, Hst2, Hle40, Hcl, Hp5, Hte0⟩ := hid9 hd4 hsn4 hcs hr4 hst2 hle40 hcl hp5 hte0; clear hte0 hp5 hcl hle40 hst2 hr4 hcs hsn4 hd4; have Hs5 := Lib.hid hs5; clear hs5
      go_wp2_with fail
      refine (Hcl.out).mono ?_
      rintro e w5 ⟨rfl, vb5, g50, g51, vo5, P5, hr5⟩
      have hd5 := Hd4.out.call hr5
      obtain ⟨c9, f9, bl9⟩ := hd5.c9
      rw [Hs5.out] at c9
      have hd6 := hd5.day (sd + 1)
      clear d0 d1 dl
      obtain ⟨Hr5, Hd5, Hd6⟩ := hid3 hr5 hd5 hd6; clear hd6 hd5 hr5
      go_wp2_with fail
      go_step3
      go_wp2
      refine jump2_1 ⟨wkJ1.mk _ B (.slice (some ⟨g, o, none⟩) mA cS) (by first | exact hz0 | rfl) rfl Hd6.out Hp5.out, ?_⟩
      show max (td + 1 - cellInt _ B 9) 0 < td + 1 - cellInt W B 9
      rw [cellInt_of Hd6.out.c9.1, Hcs.out]
      have hdt := Hp.out.dt
      have hdy := Hday.out
      show max (td + 1 - (sd + 1)) 0 < td + 1 - sd
      omega
    ·have hteI : (te == sd) = false := beq_eq_false_iff_ne.2 hte0
     have hp5 := Hg1.out hte0
     obtain ⟨c9, f9, bl9⟩ := hd4.c9
     rw [Hs2d.out] at c9
     have hd6 := hd4.day (sd + 1)
     obtain ⟨Hd4, Hsn4, Hcs, Hp5, Hte0, Hd6⟩ := hid6 hd4 hsn4 hcs hp5 hte0 hd6; clear hd6 hte0 hp5 hcs hsn4 hd4
     go_wp2_with fail
     go_step3
     go_wp2
     refine jump2_1 ⟨wkJ1.mk _ B (.slice (some ⟨g, o, none⟩) mA cS) (by first | exact hz0 | rfl) rfl Hd6.out Hp5.out, ?_⟩
     show max (td + 1 - cellInt _ B 9) 0 < td + 1 - cellInt W B 9
     rw [cellInt_of Hd6.out.c9.1, Hcs.out]
     have hdt := Hp.out.dt
     have hdy := Hday.out
     show max (td + 1 - (sd + 1)) 0 < td + 1 - sd
     omega
  ·have hEb : (E == 0) = false := beq_eq_false_iff_ne.2 hE0
   obtain ⟨Hd, Hp, Hrv, HZ, Hev, HE, Hperr, HE0, Hmeas⟩ := hid9 hd hp hrv hZ hev hE hperr hE0 hmeas; clear hmeas hE0 hperr hE hev hZ hrv hp hd; obtain ⟨Hrok, L0⟩ := hid2 hrok l0; clear l0 hrok
   go_wp2_with fail
   refine (Hev.out).mono ?_
   rintro e w1 ⟨rfl, vb', vr', hr1⟩
   have hd1 := Hd.out.call hr1
   obtain ⟨Hr1, Hd1⟩ := hid2 hr1 hd1; clear hd1 hr1
   go_wp2_with fail
   go_step3
   go_wp2
   refine jump2_2 ⟨wkJ0.mk E rfl Hd1.out.pos Hd1.out.keeps HE0.out (Hperr.out HE0.out), ?_⟩
   show _ < td + 1
   exact Hmeas.out
 ·intro hp1
  go_wp2_with fail
  rw [← hw4]
  clear hw4
  have hS5 := HS4.out w4.drew (Keeps.drew _)
  have HS5 := Lib.hid hS5; clear hS5
  refine wp_region_mixw (wkS w.heap.size t (.slice adt n ct) f0 f1 f2) (.take 0 (.take 1 (.take 3 (.take 4 (.take 5 (.move 2 (.take 6 (.move 7 (.take 8 .done))))))))) (by kernel_rfl) (by kernel_rfl) ?_ ?_
  ·exact HS5.out
  intro w5 hs5 hk5
  repeat (first
   | (refine mix_skip rfl (by rfl) ?_; try simp only [Act.put, List.setIfInBounds_toArray, List.set_cons_zero, List.set_cons_succ])
   | (refine mix_skipm rfl (by rfl) ?_; try simp only [Act.put, List.setIfInBounds_toArray, List.set_cons_zero, List.set_cons_succ])
   | (refine mix_take (v := ?_) rfl (by rfl) ?_ ?_; rotate_left; (· intro w' hSw; unfold wkS tbS at hSw; go_simp; (try with_reducible rfl)); rotate_right; try simp only [Act.put, List.setIfInBounds_toArray, List.set_cons_zero, List.set_cons_succ]))
  have hk5w := Hk4.out.nt hk5
  refine mix_move rfl (fun K hK => ?_)
  go_simp
  go_at_call 39
  ((with_reducible refine (Hsrt.out _ hk5w).mono ?_); rintro e w6 ⟨vl, rfl, hrl, hk6, hnl⟩; dsimp only)
  obtain ⟨al, cl, rfl⟩ : ∃ a c, vl = .slice a N c := by obtain ⟨a, c, h, _⟩ := ownsRow_shape hrl; rw [HN.out] at h; exact ⟨a, c, h⟩
  refine hK.out _ _ (by exact hs5.keep hk6) ?_
  clear hK K
  try simp only [Act.put, List.setIfInBounds_toArray, List.set_cons_zero, List.set_cons_succ]
  repeat (first
   | (refine mix_skip rfl (by rfl) ?_; try simp only [Act.put, List.setIfInBounds_toArray, List.set_cons_zero, List.set_cons_succ])
   | (refine mix_skipm rfl (by rfl) ?_; try simp only [Act.put, List.setIfInBounds_toArray, List.set_cons_zero, List.set_cons_succ])
   | (refine mix_take (v := ?_) rfl (by rfl) ?_ ?_; rotate_left; (· intro w' hSw; unfold wkS tbS at hSw; go_simp; (try with_reducible rfl)); rotate_right; try simp only [Act.put, List.setIfInBounds_toArray, List.set_cons_zero, List.set_cons_succ]))
  refine mix_move rfl (fun K hK => ?_)
  go_simp
  refine hK.out _ _ (by exact (hs5.keep hk6).keep (Keeps.alloc _ _)) ?_
  clear hK K
  try simp only [Act.put, List.setIfInBounds_toArray, List.set_cons_zero, List.set_cons_succ]
  repeat (first
   | (refine mix_skip rfl (by rfl) ?_; try simp only [Act.put, List.setIfInBounds_toArray, List.set_cons_zero, List.set_cons_succ])
   | (refine mix_skipm rfl (by rfl) ?_; try simp only [Act.put, List.setIfInBounds_toArray, List.set_cons_zero, List.set_cons_succ])
   | (refine mix_take (v := ?_) rfl (by rfl) ?_ ?_; rotate_left; (· intro w' hSw; unfold wkS tbS at hSw; go_simp; (try with_reducible rfl)); rotate_right; try simp only [Act.put, List.setIfInBounds_toArray, List.set_cons_zero, List.set_cons_succ]))
  refine mix_done ?_
  have hk7 := (hk5w.nt hk6).trans_alloc (o := .cells #[.int .i64 t.limit, .slice adt n ct, .int .i64 t.cyc, .int .i64 t.due, .int .i64 t.minFixed, .int .i64 t.minPart, .int .i64 t.start, .slice al N cl, .int .i64 0, .int .i64 t.start, .slice none 0 0, .int .i64 0, .int .i64 0, .slice none 0 0, .slice none 0 0, .slice none 0 0, .slice none 0 0, f0, f1, f2] 94)
  have hb7 := heap_alloc_new w6 (.cells #[.int .i64 t.limit, .slice adt n ct, .int .i64 t.cyc, .int .i64 t.due, .int .i64 t.minFixed, .int .i64 t.minPart, .int .i64 t.start, .slice al N cl, .int .i64 0, .int .i64 t.start, .slice none 0 0, .int .i64 0, .int .i64 0, .slice none 0 0, .slice none 0 0, .slice none 0 0, .slice none 0 0, f0, f1, f2] 94)
  have hr7 := hrl.alloc (.cells #[.int .i64 t.limit, .slice adt n ct, .int .i64 t.cyc, .int .i64 t.due, .int .i64 t.minFixed, .int .i64 t.minPart, .int .i64 t.start, .slice al N cl, .int .i64 0, .int .i64 t.start, .slice none 0 0, .int .i64 0, .int .i64 0, .slice none 0 0, .slice none 0 0, .slice none 0 0, .slice none 0 0, f0, f1, f2] 94)
  have hk47 : Keeps (fun _ => False) w4 _ := (hk5.nt hk6).trans_alloc (o := .cells #[.int .i64 t.limit, .slice adt n ct, .int .i64 t.cyc, .int .i64 t.due, .int .i64 t.minFixed, .int .i64 t.minPart, .int .i64 t.start, .slice al N cl, .int .i64 0, .int .i64 t.start, .slice none 0 0, .int .i64 0, .int .i64 0, .slice none 0 0, .slice none 0 0, .slice none 0 0, .slice none 0 0, f0, f1, f2] 94)
  have hBw : w.heap.size ≤ w6.heap.size := (hk5w.nt hk6).size
  have hBn : w6.heap.size ≠ w.heap.size := by have := lt_of_block Hp4.out; have := (hk5.nt hk6).size; omega
  have hnl' : ∀ g, (Value.slice al N cl).ownBlock = some g → w.heap.size ≤ g := fun g hg => by have := hnl g hg; have := hk5w.size; omega
  obtain ⟨w7, hw7⟩ : ∃ x, x = w6.alloc (.cells #[.int .i64 t.limit, .slice adt n ct, .int .i64 t.cyc, .int .i64 t.due, .int .i64 t.minFixed, .int .i64 t.minPart, .int .i64 t.start, .slice al N cl, .int .i64 0, .int .i64 t.start, .slice none 0 0, .int .i64 0, .int .i64 0, .slice none 0 0, .slice none 0 0, .slice none 0 0, .slice none 0 0, f0, f1, f2] 94) := ⟨_, rfl⟩
  rw [← hw7] at hk7 hb7 hr7 hk47 ⊢
  obtain ⟨B, hB⟩ : ∃ x, x = w6.heap.size := ⟨_, rfl⟩
  rw [← hB] at hb7 hBw hBn ⊢
  clear hB hw7 hs5 hk5 hk5w hk6 hrl hnl
  obtain ⟨b0, b1, b2, b3, b4, b5, b6⟩ := (HS4.out w7 hk47).1
  have bbl := cell_lt b0
  have hp7 := box_old Hp4.out hk47 (by simp)
  have hs7 := box_old Hs4.out hk47 (by simp)
  obtain ⟨Hk7, Hb7, Hr7, Hk47, Hnl', Hp7, Hs7⟩ := hid7 hk7 hb7 hr7 hk47 hnl' hp7 hs7; clear hs7 hp7 hnl' hk47 hr7 hb7 hk7
  go_wp2_with fail
  refine (Hrgt.out _ Hk7.out).mono ?_
  rintro e w8 ⟨rfl, hk8⟩
  by_cases hz0 : z = 0
  ·obtain ⟨rfl, rfl, rfl⟩ := Hf.out hz0
   have hrok := repErr_ok (Hz.out.trans hz0)
   have hnum := tm_nums hrok.tm
   rw [Hn.out] at hnum
   obtain ⟨⟨l0, l1⟩, _, _, _, _, _, ⟨sa, sb⟩⟩ := hnum
   have hzI : (z == 0) = true := by simp [hz0]
   have hall := fun W => cycAll_any t.start t.cyc td W (by omega)
   rw [hA] at hall
   clear b0 b1 b2 b3 b4 b5 b6 bbl
   obtain ⟨b0, b1, b2, b3, b4, b5, b6⟩ := (HS4.out w8 (Hk47.out.nt hk8)).1
   have bbl := cell_lt b0
   obtain ⟨Hk8, Hall, Hrok, Hz0⟩ := hid4 hk8 hall hrok hz0; clear hz0 hrok hall hk8
   go_wp2_with fail
   refine (Hall.out _).mono ?_
   rintro e w9 ⟨vS, rfl, hrow, hk9, hnS⟩
   clear b0 b1 b2 b3 b4 b5 b6 bbl
   have hk89 := Hk8.out.nt hk9
   have hb9 := box_old Hb7.out hk89 (by simp)
   obtain ⟨b0, b1, b2, b3, b4, b5, b6⟩ := (HS4.out w9 (Hk47.out.nt hk89)).1
   have bbl := cell_lt b0
   have c10 := cell_of_cells hb9 10
   have f10 := free_of_cells hb9 10
   have bl9 := lt_of_block hb9
   obtain ⟨i0, hi, hi0, hi1, hi2⟩ := info_parts info_tInt64
   have hmk := fun (W : World) => run_makeSlice (P := Try.prog) W 30 2 i0 (.int .i64 0) Try.underlying30 hi hi0 .i64 .i64 (n : Int) (n : Int) (by omega) (by omega) (by rw [hi1]; omega) (by rw [hi2]; omega) (by omega)
   simp only [Int.toNat_natCast, hi1, Nat.mul_one] at hmk
   obtain ⟨Y, hY⟩ : ∃ Y, Y = madeCells (Value.int IntKind.i64 0).cells n := ⟨_, rfl⟩
   rw [← hY] at hmk
   obtain ⟨Hi, Hi0, Hi1, Hi2, HY, Hrow, Hk9, HnS, Hk89⟩ := hid9 hi hi0 hi1 hi2 hY hrow hk9 hnS hk89; clear hk89 hnS hk9 hrow hY hi2 hi1 hi0 hi; have Hb9 := Lib.hid hb9; clear hb9
   go_wp2
   have hpre : PreR w B (w.heap.size + 1 + 1) (w.heap.size + 1 + 1 + 1) t n (.slice adt n ct) (sortL L) A vS (.slice al N cl) (.slice (some ⟨w9.heap.size, 0, none⟩) n n) .nilFunc .nilFunc .nilFunc (.slice none 0 0) 0 ((w9.setCell ⟨B, 10, none⟩ (.slice (some ⟨w9.heap.size, 0, none⟩) n n)).alloc (.cells Y 2)) := by
    have hl8 : w.heap.size + 1 + 1 + 1 < w8.heap.size := by have := lt_of_block Hs7.out; have := Hk8.out.size; omega
    rw [HY.out, ← World.setCell_alloc_past _ _ _ _ bl9]
    exact PreR.start Hb9.out (HS4.out w9 (Hk47.out.nt Hk89.out)).1 (by rw [sortL_length]; exact Hr7.out.of_keeps Hk89.out) (box_old Hp7.out Hk89.out (by simp)) (box_old Hs7.out Hk89.out (by simp)) Hrow.out ⟨by omega, by omega, hBw, fun g hg => by have := HnS.out g hg; omega⟩ (fun g hg => by have := HnS.out g hg; omega) Hnl'.out (by unfold maxLen; omega) hBn (Hk7.out.nt Hk89.out)
   obtain ⟨W0, hW0⟩ : ∃ x, x = ((w9.setCell ⟨B, 10, none⟩ (.slice (some ⟨w9.heap.size, 0, none⟩) n n)).alloc (.cells Y 2)) := ⟨_, rfl⟩
   rw [← hW0] at hpre ⊢
   clear hW0
   obtain ⟨vb, hvb⟩ : ∃ x, x = (Value.slice (some ⟨w9.heap.size, 0, none⟩) n n) := ⟨_, rfl⟩
   rw [← hvb] at hpre
   clear hvb b0 b1 b2 b3 b4 b5 b6 bbl c10 f10 bl9 hmk
   have Hpre := Lib.hid hpre; clear hpre
   go_loopw [49] (fun x wx => ∃ (k : Nat) (vr : Value), x = .int .i64 (k : Nat) ∧ k ≤ n ∧ PreR w B (w.heap.size + 1 + 1) (w.heap.size + 1 + 1 + 1) t n (.slice adt n ct) (sortL L) A vS (.slice al N cl) vb .nilFunc .nilFunc .nilFunc vr k wx) (fun x _ => n - (intOf x).toNat)
   case atStart => exact ⟨0, _, rfl, Nat.zero_le _, Hpre.out⟩
   case round =>
    obtain ⟨k, vr, rfl, hkn, hpr⟩ := hrel
    obtain ⟨wq, hwq⟩ : ∃ x, x = wr := ⟨_, rfl⟩
    subst hwq
    obtain ⟨ar, cr, rfl⟩ : ∃ a c, vr = .slice a k c := by obtain ⟨a, c, h, _⟩ := ownsRow_shape hpr.rts; exact ⟨a, c, h⟩
    by_cases hlt : k < n
    ·have hltI : (k : Int) < (n : Int) := by omega
     obtain ⟨x, hx⟩ := get_some (L := t.trs) (k := k) (by rw [Hn.out]; exact hlt)
     obtain ⟨g, o, c', he, hc⟩ := (Htr.out.keeps hpr.kp (by simp)).elem Tn.cells_length hx (by decide)
     simp only [Value.slice.injEq, true_and] at he
     obtain ⟨rfl, rfl⟩ := he
     obtain ⟨xr, xg⟩ := x
     have x0 : wq.cell? ⟨g, o + k * 2, none⟩ = some (.int .i64 xr) := hc 0 (by decide)
     have x1 : wq.cell? ⟨g, o + k * 2 + 1, none⟩ = some (.bool xg) := hc 1 (by decide)
     clear hc
     obtain ⟨w10, hw10⟩ : ∃ x, x = wq.alloc (.cells #[.int .i64 xr, .bool xg] 67) := ⟨_, rfl⟩
     have hpr1 := hpr.keep0 (Keeps.alloc wq (.cells #[.int .i64 xr, .bool xg] 67))
     rw [← hw10] at hpr1
     have hqB := lt_of_block hpr.blk
     have hqr : ¬ (Value.slice ar k cr).ownBlock = some wq.heap.size := fun e => by have := own_lt hpr.rts e; omega
     have hS1 : r11S B wq.heap.size (.slice ar k cr) xr w10.drew := (show r11S B wq.heap.size (.slice ar k cr) xr w10 from ⟨cell_of_cells hpr1.blk 13, by rw [hw10]; exact cell_of_cells (heap_alloc_new wq (.cells #[.int .i64 xr, .bool xg] 67)) 0⟩).keep (S := fun _ => False) (Keeps.drew _) (by simp) (by simp)
     obtain ⟨Hx, Hpr, Hpr1, HS1⟩ := hid4 hx hpr hpr1 hS1; clear hS1 hpr1 hpr hx
     go_wp2_with fail
     rw [← hw10]
     clear hw10 x0 x1
     obtain ⟨b9, hb9e⟩ : ∃ x, x = wq.heap.size := ⟨_, rfl⟩
     rw [← hb9e] at HS1 hqr hqB ⊢
     have Hb9e := Lib.hid hb9e; clear hb9e
     refine wp_region_mixy (r11S B b9 (.slice ar k cr) xr) 11 (.take 0 (.take 1 (.take 2 (.take 3 (.take 4 (.take 5 (.take 6 (.move 7 (.move 8 (.move 9 (.move 10 (.move 11 .done)))))))))))) (by kernel_rfl) (by kernel_rfl) ?_ ?_
     ·exact HS1.out
     intro w11 hs11 hk11
     repeat (first
      | (refine mix_skip rfl (by rfl) ?_; try simp only [Act.put, List.setIfInBounds_toArray, List.set_cons_zero, List.set_cons_succ])
      | (refine mix_skipm rfl (by rfl) ?_; try simp only [Act.put, List.setIfInBounds_toArray, List.set_cons_zero, List.set_cons_succ])
      | (refine mix_take (v := ?_) rfl (by rfl) ?_ ?_; rotate_left; (· intro w' hSw; unfold r11S at hSw; go_simp; (try with_reducible rfl)); rotate_right; try simp only [Act.put, List.setIfInBounds_toArray, List.set_cons_zero, List.set_cons_succ]))
     refine mix_move rfl (fun K hK => ?_)
     go_simp
     refine hK.out _ _ (by exact hs11.keep (S := fun _ => False) (Keeps.alloc _ _) (by simp) (by simp)) ?_
     clear hK K
     try simp only [Act.put, List.setIfInBounds_toArray, List.set_cons_zero, List.set_cons_succ]
     repeat (first
      | (refine mix_skip rfl (by rfl) ?_; try simp only [Act.put, List.setIfInBounds_toArray, List.set_cons_zero, List.set_cons_succ])
      | (refine mix_skipm rfl (by rfl) ?_; try simp only [Act.put, List.setIfInBounds_toArray, List.set_cons_zero, List.set_cons_succ])
      | (refine mix_take (v := ?_) rfl (by rfl) ?_ ?_; rotate_left; (· intro w' hSw; unfold r11S at hSw; go_simp; (try with_reducible rfl)); rotate_right; try simp only [Act.put, List.setIfInBounds_toArray, List.set_cons_zero, List.set_cons_succ]))
     have hk11a := hk11.nt (Keeps.alloc w11 (.cells #[.int .i64 xr] 2))
     have hpr2 := Hpr1.out.keep0 hk11a
     have hrt2 := hpr2.rts
     refine mix_move rfl (fun K hK => ?_)
     refine step_append_row rfl (.tmp 57) (.tmp 60) 30 rfl 0 2 i0 _ 1 8 Try.underlying30 Hi.out Hi0.out Hi1.out Hi2.out rfl (by decide) (.slice ar k cr) k _ rfl hrt2 _ 1 _ rfl (Reads.litAt _ _ _ 1 1 _ (by first | rfl | simp) rfl) (by simp [Value.oneCell']) (by unfold maxLen; omega) (by omega) (Nat.zero_le _) ?_
     intro v12 w12 hown12 hk12 hf12
     obtain ⟨a12, c12, rfl, _, _⟩ := ownsRow_shape hown12
     have hxr : (t.trs.map Tn.rate)[k]? = some xr := by rw [List.getElem?_map, Hx.out]; rfl
     have happ := hpr2.app hBn hxr hk12 (by rw [List.flatMap_append]; exact hown12) hf12
     have hB12 := box_old hpr2.blk hk12 (fun e => ownsRow_ne hrt2 hpr2.blk (by decide) e)
     have o13 := cell_of_cells hB12 13
     have f13 := free_of_cells hB12 13
     have l13 := lt_of_block hB12
     refine hK.out _ _ (by exact (hs11.keep (S := fun _ => False) (Keeps.alloc _ _) (by simp) (by simp)).keep hk12 (fun e => ownsRow_ne hrt2 hpr2.blk (by decide) e) hqr) ?_
     clear hK K
     try simp only [Act.put, List.setIfInBounds_toArray, List.set_cons_zero, List.set_cons_succ]
     obtain ⟨Hk11a, Hpr2, Hrt2, Hown12, Hk12, Hxr, Happ, HB12, Hk11⟩ := hid9 hk11a hpr2 hrt2 hown12 hk12 hxr happ hB12 hk11; clear hk11 hB12 happ hxr hk12 hown12 hrt2 hpr2 hk11a
     clear hs11 hf12
     repeat (first
      | (refine mix_takem (v := ?_) rfl (by rfl) ?_ ?_; rotate_left; (· intro w' hSw; unfold r11S at hSw; go_simp; (try with_reducible rfl)); rotate_right; try simp only [Act.put, List.setIfInBounds_toArray, List.set_cons_zero, List.set_cons_succ]))
     refine mix_last rfl (fun K hK => ?_)
     go_simp
     refine hK.out _ _ ?_
     clear hK K
     try simp only [Act.put, List.setIfInBounds_toArray, List.set_cons_zero, List.set_cons_succ]
     refine mix_done ?_
     clear o13 f13 l13
     go_wp2_with fail
     go_roundw
     case rel => exact ⟨k + 1, _, by go_num, by omega, Happ.out⟩
     case measure => simp [intOf]; omega
    ·obtain rfl : n = k := by omega
     have hfr0 := runFresh_raw hpr.blk (by omega)
     have hne : t.trs.flatMap Tn.cells ≠ [] := fun e => by
      have h1 := congrArg List.length e
      rw [flatMap_len t.trs, Hn.out] at h1
      simp at h1
      omega
     have hvb : ∀ b, (Value.slice adt n ct).ownBlock = some b → b < w.heap.size := fun b hb => by
      obtain ⟨g, hg, hl⟩ := Htr.out.lt hne
      rw [hg] at hb
      injection hb with hb
      omega
     have hps := DayP.start (Hz.out.trans Hz0.out) Hn.out
     rw [hA, HR.out] at hps
     obtain ⟨Hpr, Hfr0, Hne, Hvb, Hps⟩ := hid5 hpr hfr0 hne hvb hps; clear hps hvb hne hfr0 hpr
     go_wp2_with fail
     refine Hfr0.out.mono ?_
     rintro e w12 ⟨rfl, a, b, hBb, ha, hb, la, lb, hab, hk⟩
     have hday := Hpr.out.fin Hn.out Htr.out Hvb.out hBb ha hb la lb hab hk
     obtain ⟨Hday, HBb, Ha, Hb, La, Lb, Hab, Hk⟩ := hid8 hday hBb ha hb la lb hab hk; clear hk hab lb la hb ha hBb hday
     go_wp2_with fail
     go_step3
     rename_i hK
     refine hK _ _ ?_
     refine hp1.out _ _ ?_
     exact wkJ1.mk (st0 t) B vS (by first | exact Hz0.out | rfl) rfl Hday.out Hps.out
  ·have hzI : (z == 0) = false := beq_eq_false_iff_ne.2 hz0
   have hR2 : R.2 = z := by have := HR'.out; rw [if_neg hz0] at this; rw [← this]
   obtain ⟨Hk8, Hz0, HR2⟩ := hid3 hk8 hz0 hR2; clear hR2 hz0 hk8
   go_wp2_with fail
   go_step3
   go_wp2
   refine jump2_2 (wkJ0.mk z rfl (box_old Hp7.out Hk8.out (by simp)) (Hk7.out.nt Hk8.out) Hz0.out HR2.out)
end Go.Proofs.Ythcmpcekmkioaaa
namespace Go.Proofs.Ythcmpcekmkioaaa
open Go.RowKit
theorem WalkRes.lift {w w2 w' w'' : World} {n : Nat} {s : St} {vb vr vo : Value} {P : List SV} {b8 : Nat} (h : WalkRes w2 n s vb vr vo P w') (hk : Keeps (fun i => i = b8) w' w'') (hb : b8 < w2.heap.size) (hkw : Keeps (fun _ => False) w w2) (hwb : w.heap.size ≤ b8) : WalkRes w n s vb vr vo P w'' where
 bal := hk.row h.bal fun b hb' e => by have e' : b = b8 := e; have := h.wb b hb'; omega
 rts := hk.row h.rts fun b hb' e => by have e' : b = b8 := e; have := h.wr b hb'; omega
 out := hk.row h.out fun b hb' e => by have e' : b = b8 := e; have := h.wo b hb'; omega
 ln := fun x hx => hk.row (h.ln x hx) fun b hb' e => by have e' : b = b8 := e; have := h.wl x hx b hb'; omega
 lp := h.lp
 nb := h.nb
 nr := h.nr
 wb := fun b hb' => by have := h.wb b hb'; have := hkw.size; omega
 wr := fun b hb' => by have := h.wr b hb'; have := hkw.size; omega
 wo := fun b hb' => by have := h.wo b hb'; have := hkw.size; omega
 wl := fun x hx b hb' => by have := h.wl x hx b hb'; have := hkw.size; omega
 kp := (hkw.nt h.kp).trans (hk.mono fun i _ e => .inr (by have e' : i = b8 := e; omega))
set_option maxRecDepth 100000 in
set_option maxHeartbeats 1600000 in
theorem repRun_any (t : Tm) (adt : Option Addr) (ct n : Nat) (L : List Ev) (ad : Option Addr) (cap N : Nat) (td : Int) (w : World) (hn : t.trs.length = n) (htr : Reads w 2 (.slice adt n ct) n (t.trs.flatMap Tn.cells)) (hN : L.length = N) (hr : Reads w 5 (.slice ad N cap) N (L.flatMap Ev.cells)) (hl : N ≤ 1000000) (htl : n ≤ 1000000) :
  Calls Try.prog 14 #[.agg #[.int .i64 t.limit, .slice adt n ct, .int .i64 t.cyc, .int .i64 t.due, .int .i64 t.minFixed, .int .i64 t.minPart, .int .i64 t.start], .slice ad N cap, .int .i64 td] w (WalkPost w n (walkR t L td)) := by
 obtain ⟨R, hR⟩ : ∃ R, walkR t L td = R := ⟨_, rfl⟩
 have hwk := fun W (hW : Keeps (fun _ => False) w W) => repWalk_any t adt ct n L ad cap N td .nilFunc .nilFunc .nilFunc W hn (htr.keeps hW (by simp)) hN (hr.keeps hW (by simp)) hl htl (fun _ => ⟨rfl, rfl, rfl⟩)
 rw [hR] at hwk ⊢
 obtain ⟨w2, hw2⟩ : ∃ x, x = (w.alloc (.cells #[.int .i64 t.limit, .slice adt n ct, .int .i64 t.cyc, .int .i64 t.due, .int .i64 t.minFixed, .int .i64 t.minPart, .int .i64 t.start] 24)).alloc (.cells #[.slice none 0 0, .int .i64 0, .int .i64 0] 32) := ⟨_, rfl⟩
 have hk2 : Keeps (fun _ => False) w w2 := by rw [hw2]; exact (Keeps.alloc _ _).trans_alloc
 have hp2 : w2.heap[w.heap.size + 1]? = some (.cells #[.slice none 0 0, .int .i64 0, .int .i64 0] 32 (0, 0)) := by rw [hw2]; exact halloc_at2 _ _ (by simp)
 obtain ⟨Htr, Hr, HR, HN, Hn, Hwk, Hk2, Hp2⟩ := hid8 htr hr hR hN hn hwk hk2 hp2; clear hp2 hk2 hwk hn hN hR hr htr
 go_enter Try.func14, Try.ntmps14
 go_wp2_with fail
 rw [← hw2]
 clear hw2
 refine (Hwk.out _ Hk2.out).mono ?_
 rintro e w3 (⟨hz, vb, vr, vo, P, rfl, hres⟩ | ⟨hz, rfl, hk3⟩)
 ·obtain ⟨ab, cb, rfl⟩ : ∃ a c, vb = .slice a n c := by obtain ⟨a, c, h, _⟩ := ownsRow_shape hres.bal; exact ⟨a, c, h⟩
  have hb := box_old Hp2.out hres.kp (by simp)
  have d0 := cell_of_cells hb 0
  have d1 := cell_of_cells hb 1
  have d2 := cell_of_cells hb 2
  have e0 := free_of_cells hb 0
  have e1 := free_of_cells hb 1
  have e2 := free_of_cells hb 2
  have dl := lt_of_block hb
  have hkz : Keeps (fun i => i = w.heap.size + 1) w3 (((w3.setCell ⟨w.heap.size + 1, 0, none⟩ (.slice ab n cb)).setCell ⟨w.heap.size + 1, 1, none⟩ (.int .i64 R.1.p.cr)).setCell ⟨w.heap.size + 1, 2, none⟩ (.int .i64 R.1.p.du)) := ((Keeps.setCell (S := fun i => i = w.heap.size + 1) _ _ _ rfl).trans (Keeps.setCell _ _ _ (.inl rfl))).trans (Keeps.setCell _ _ _ (.inl rfl))
  have hb3 : (((w3.setCell ⟨w.heap.size + 1, 0, none⟩ (.slice ab n cb)).setCell ⟨w.heap.size + 1, 1, none⟩ (.int .i64 R.1.p.cr)).setCell ⟨w.heap.size + 1, 2, none⟩ (.int .i64 R.1.p.du)).heap[w.heap.size + 1]? = some (.cells #[.slice ab n cb, .int .i64 R.1.p.cr, .int .i64 R.1.p.du] 32 (0, 0)) := (heap_setCell_same _ _ 2 _ _ _ ((heap_setCell_same _ _ 1 _ _ _ ((heap_setCell_same _ _ 0 _ _ _ hb).trans rfl)).trans rfl)).trans rfl
  have hres2 := hres.lift hkz (lt_of_block Hp2.out) Hk2.out (by omega)
  obtain ⟨Hz, Hres, Hb, Hkz, Hb3, Hres2⟩ := hid6 hz hres hb hkz hb3 hres2; clear hres2 hb3 hkz hb hres hz
  go_wp2
  have r0 := cell_of_cells Hb3.out 0
  have r1 := cell_of_cells Hb3.out 1
  have r2 := cell_of_cells Hb3.out 2
  clear d0 d1 d2
  exact bodyPost_ret (v := .tuple #[.agg #[.slice ab n cb, .int .i64 R.1.p.cr, .int .i64 R.1.p.du], vr, vo, .int .i64 0]) (by simp [results, Try.results14, go_sem, r0, r1, r2]) rfl (.inl ⟨Hz.out, _, vr, vo, P, rfl, Hres2.out⟩)
 ·have hb := box_old Hp2.out hk3 (by simp)
  have d0 := cell_of_cells hb 0
  have d1 := cell_of_cells hb 1
  have d2 := cell_of_cells hb 2
  have e0 := free_of_cells hb 0
  have e1 := free_of_cells hb 1
  have e2 := free_of_cells hb 2
  have dl := lt_of_block hb
  have hkz : Keeps (fun i => i = w.heap.size + 1) w3 (((w3.setCell ⟨w.heap.size + 1, 0, none⟩ (.slice none 0 0)).setCell ⟨w.heap.size + 1, 1, none⟩ (.int .i64 0)).setCell ⟨w.heap.size + 1, 2, none⟩ (.int .i64 0)) := ((Keeps.setCell (S := fun i => i = w.heap.size + 1) _ _ _ rfl).trans (Keeps.setCell _ _ _ (.inl rfl))).trans (Keeps.setCell _ _ _ (.inl rfl))
  have hb3 : (((w3.setCell ⟨w.heap.size + 1, 0, none⟩ (.slice none 0 0)).setCell ⟨w.heap.size + 1, 1, none⟩ (.int .i64 0)).setCell ⟨w.heap.size + 1, 2, none⟩ (.int .i64 0)).heap[w.heap.size + 1]? = some (.cells #[.slice none 0 0, .int .i64 0, .int .i64 0] 32 (0, 0)) := (heap_setCell_same _ _ 2 _ _ _ ((heap_setCell_same _ _ 1 _ _ _ ((heap_setCell_same _ _ 0 _ _ _ hb).trans rfl)).trans rfl)).trans rfl
  have hkf : Keeps (fun _ => False) w (((w3.setCell ⟨w.heap.size + 1, 0, none⟩ (.slice none 0 0)).setCell ⟨w.heap.size + 1, 1, none⟩ (.int .i64 0)).setCell ⟨w.heap.size + 1, 2, none⟩ (.int .i64 0)) := (Hk2.out.nt hk3).trans (hkz.mono fun i _ e => .inr (by have e' : i = w.heap.size + 1 := e; omega))
  obtain ⟨Hz, Hb, Hkz, Hb3, Hkf, Hk3⟩ := hid6 hz hb hkz hb3 hkf hk3; clear hk3 hkf hb3 hkz hb hz
  go_wp2
  have r0 := cell_of_cells Hb3.out 0
  have r1 := cell_of_cells Hb3.out 1
  have r2 := cell_of_cells Hb3.out 2
  clear d0 d1 d2
  exact bodyPost_ret (v := .tuple #[.agg #[.slice none 0 0, .int .i64 0, .int .i64 0], .slice none 0 0, .slice none 0 0, .int .i64 R.2]) (by simp [results, Try.results14, go_sem, r0, r1, r2]) rfl (.inr ⟨Hz.out, rfl, Hkf.out⟩)
end Go.Proofs.Ythcmpcekmkioaaa
namespace Go.Proofs.Ythcmpcekmkioaaa
open Go.RowKit
set_option maxRecDepth 100000 in
set_option maxHeartbeats 1600000 in
theorem repSeries_bad (t : Tm) (adt : Option Addr) (ct n : Nat) (L : List Ev) (ad : Option Addr) (cap N : Nat) (td tr : Int) (w : World) (hn : t.trs.length = n) (htr : Reads w 2 (.slice adt n ct) n (t.trs.flatMap Tn.cells)) (hN : L.length = N) (hr : Reads w 5 (.slice ad N cap) N (L.flatMap Ev.cells)) (hl : N ≤ 1000000) (htl : n ≤ 1000000) (E : Int) (hE : repErr t L td = E) (hE0 : E ≠ 0) :
  Calls Try.prog 23 #[.agg #[.int .i64 t.limit, .slice adt n ct, .int .i64 t.cyc, .int .i64 t.due, .int .i64 t.minFixed, .int .i64 t.minPart, .int .i64 t.start], .slice ad N cap, .int .i64 td, .int .i64 tr] w fun e w' => e = .returned (.tuple #[.slice none 0 0, .int .i64 E]) ∧ Keeps (fun _ => False) w w' := by
 obtain ⟨R, hR⟩ : ∃ R, walkR t L td = R := ⟨_, rfl⟩
 have hR2 : R.2 = E := by rw [← hR]; unfold walkR; rw [hE, if_neg hE0]
 have hwk := fun W (hW : Keeps (fun _ => False) w W) f1 => repWalk_any t adt ct n L ad cap N td .nilFunc f1 .nilFunc W hn (htr.keeps hW (by simp)) hN (hr.keeps hW (by simp)) hl htl (fun h => absurd (hE.symm.trans h) hE0)
 rw [hR] at hwk
 by_cases h1 : 1 ≤ tr
 ·by_cases h2 : tr ≤ (n : Int)
  ·obtain ⟨Htr, Hr, HR, HN, Hn, Hwk, HE, HE0, HR2⟩ := hid9 htr hr hR hN hn hwk hE hE0 hR2; clear hR2 hE0 hE hwk hn hN hR hr htr
   go_enter Try.func23, Try.ntmps23
   go_wp2_with fail
   refine (Hwk.out _ (by first | exact ((Keeps.alloc _ _).trans_alloc).trans_alloc.trans_alloc | (repeat (first | exact Keeps.refl _ _ | exact Keeps.alloc _ _ | exact Keeps.drew _ | exact Keeps.drewN _ _ | refine Keeps.trans_drew ?_ | refine Keeps.trans_drewN ?_ | refine Keeps.trans_alloc ?_))) _).mono ?_
   rintro e w3 (⟨hz, _⟩ | ⟨hz, rfl, hk3⟩)
   ·exact absurd (hz.symm.trans HR2.out).symm HE0.out
   ·have hz2 := HR2.out
    rw [hz2]
    have hEI : (E == 0) = false := beq_eq_false_iff_ne.2 HE0.out
    obtain ⟨Hk3, Hz, Hz2⟩ := hid3 hk3 hz hz2; clear hz2 hz hk3
    go_wp2
    exact bodyPost_ret (v := .tuple #[.slice none 0 0, .int .i64 E]) (by simp [results, Try.results23, go_sem]) rfl ⟨rfl, ((((Keeps.alloc (S := fun _ => False) w _).trans_alloc).trans_alloc).trans_alloc.nt Hk3.out).trans_alloc⟩
  ·have h2' : (n : Int) < tr := by omega
   obtain ⟨Htr, Hr, HR, HN, Hn, Hwk, HE, HE0, HR2⟩ := hid9 htr hr hR hN hn hwk hE hE0 hR2; clear hR2 hE0 hE hwk hn hN hR hr htr
   go_enter Try.func23, Try.ntmps23
   go_wp2_with fail
   refine (Hwk.out _ (by first | exact ((Keeps.alloc _ _).trans_alloc).trans_alloc.trans_alloc | (repeat (first | exact Keeps.refl _ _ | exact Keeps.alloc _ _ | exact Keeps.drew _ | exact Keeps.drewN _ _ | refine Keeps.trans_drew ?_ | refine Keeps.trans_drewN ?_ | refine Keeps.trans_alloc ?_))) _).mono ?_
   rintro e w3 (⟨hz, _⟩ | ⟨hz, rfl, hk3⟩)
   ·exact absurd (hz.symm.trans HR2.out).symm HE0.out
   ·have hz2 := HR2.out
    rw [hz2]
    have hEI : (E == 0) = false := beq_eq_false_iff_ne.2 HE0.out
    obtain ⟨Hk3, Hz, Hz2⟩ := hid3 hk3 hz hz2; clear hz2 hz hk3
    go_wp2
    exact bodyPost_ret (v := .tuple #[.slice none 0 0, .int .i64 E]) (by simp [results, Try.results23, go_sem]) rfl ⟨rfl, ((((Keeps.alloc (S := fun _ => False) w _).trans_alloc).trans_alloc).trans_alloc.nt Hk3.out).trans_alloc⟩
 ·have h1' : tr < 1 := by omega
  obtain ⟨Htr, Hr, HR, HN, Hn, Hwk, HE, HE0, HR2⟩ := hid9 htr hr hR hN hn hwk hE hE0 hR2; clear hR2 hE0 hE hwk hn hN hR hr htr
  go_enter Try.func23, Try.ntmps23
  go_wp2_with fail
  refine (Hwk.out _ (by first | exact ((Keeps.alloc _ _).trans_alloc).trans_alloc.trans_alloc | (repeat (first | exact Keeps.refl _ _ | exact Keeps.alloc _ _ | exact Keeps.drew _ | exact Keeps.drewN _ _ | refine Keeps.trans_drew ?_ | refine Keeps.trans_drewN ?_ | refine Keeps.trans_alloc ?_))) _).mono ?_
  rintro e w3 (⟨hz, _⟩ | ⟨hz, rfl, hk3⟩)
  ·exact absurd (hz.symm.trans HR2.out).symm HE0.out
  ·have hz2 := HR2.out
   rw [hz2]
   have hEI : (E == 0) = false := beq_eq_false_iff_ne.2 HE0.out
   obtain ⟨Hk3, Hz, Hz2⟩ := hid3 hk3 hz hz2; clear hz2 hz hk3
   go_wp2
   exact bodyPost_ret (v := .tuple #[.slice none 0 0, .int .i64 E]) (by simp [results, Try.results23, go_sem]) rfl ⟨rfl, ((((Keeps.alloc (S := fun _ => False) w _).trans_alloc).trans_alloc).trans_alloc.nt Hk3.out).trans_alloc⟩
end Go.Proofs.Ythcmpcekmkioaaa
namespace Go.Proofs.Ythcmpcekmkioaaa
open Go.RowKit
def t19 : Tm := ⟨0, 1, 1, 0, 0, 10957, [⟨5, false⟩]⟩
def l19 : List Ev := [⟨1, 10957, 1, 7, 0⟩]
theorem rep19 : repErr t19 l19 10990 = 0 := by decide +kernel
theorem walk19 : (walkR t19 l19 10990).2 = 0 ∧ (walkR t19 l19 10990).1.p.bal = [7] ∧ (walkR t19 l19 10990).1.R = [5] ∧ (walkR t19 l19 10990).1.out.length = 1 := by decide +kernel
set_option maxRecDepth 100000 in
set_option maxHeartbeats 1600000 in
theorem awake19_any (w : World) : Calls Try.prog 11 #[] w fun e w' => e = .returned (.bool true) ∧ Keeps (fun _ => False) w w' := by
 have h19 := walk19
 have hrun := fun ad1 ad2 W h1 h2 => repRun_any t19 ad1 1 1 l19 ad2 1 1 10990 W rfl h1 rfl h2 (by decide) (by decide)
 obtain ⟨R, hR⟩ : ∃ R, walkR t19 l19 10990 = R := ⟨_, rfl⟩
 rw [hR] at hrun h19
 simp only [t19, l19] at hrun
 obtain ⟨p1, p2, p3, p4⟩ := h19
 obtain ⟨Hrun, HR, P1, P2, P3, P4⟩ := hid6 hrun hR p1 p2 p3 p4; clear p4 p3 p2 p1 hR hrun
 go_enter Try.func11, Try.ntmps11
 go_wp2_with fail
 refine (Hrun.out (some ⟨w.heap.size, 0, none⟩) (some ⟨w.heap.size + 1 + 1, 0, none⟩) _ (Reads.blk (cs := #[.int .i64 5, .bool false]) (e := 67) (fz := (0, 0)) (size := 2) (n := 1) (box_alloc (box_alloc (heap_alloc_new w _) _) _) rfl) (Reads.blk (cs := #[.int .i64 1, .int .i64 10957, .int .i64 1, .int .i64 7, .int .i64 0]) (e := 54) (fz := (0, 0)) (size := 5) (n := 1) (halloc_at2 _ _ (by simp)) rfl)).mono ?_
 rintro e w1 (⟨hz, vb, vr, vo, P, rfl, hres⟩ | ⟨hz, _⟩)
 ·have hb := hres.bal
  have hr := hres.rts
  have ho := hres.out
  rw [P2.out] at hb
  rw [P3.out] at hr
  have hP : P.length = 1 := by have := congrArg List.length hres.lp; rw [List.length_map, P4.out] at this; exact this
  rw [hP] at ho
  obtain ⟨gb, cb, rfl, _⟩ := owns_some hb (by decide)
  obtain ⟨gr, cr, rfl, _⟩ := owns_some hr (by decide)
  obtain ⟨ao, co, rfl, _⟩ := ownsRow_shape ho
  have c0 : w1.cell? ⟨gb, 0, none⟩ = some (.int .i64 7) := owns_elem i64c_length hb (k := 0) (x := 7) rfl 0 (by decide)
  have c1 : w1.cell? ⟨gr, 0, none⟩ = some (.int .i64 5) := owns_elem i64c_length hr (k := 0) (x := 5) rfl 0 (by decide)
  have hk : Keeps (fun _ => False) w w1 := (((Keeps.alloc (S := fun _ => False) w _).trans_alloc).trans_alloc).nt hres.kp
  obtain ⟨Hz, Hres, Hb, Hr, Ho, HP, Hk⟩ := hid7 hz hres hb hr ho hP hk; clear hk hP ho hr hb hres hz
  go_wp2
  exact bodyPost_ret (v := .bool true) (by simp [results, Try.results11, go_sem]) rfl ⟨rfl, Hk.out.trans_alloc⟩
 ·exact absurd P1.out hz
end Go.Proofs.Ythcmpcekmkioaaa
namespace Go.Proofs.Ythcmpcekmkioaaa
open Go.RowKit
def tF : Tm := ⟨1000000000000000, 1, 20, 25, 20, 10957, [⟨1000000, true⟩, ⟨2000000, false⟩]⟩
def st2 (i : Nat) (day a b c d r1 r2 : Int) (x1 x2 y1 y2 : List Int) (out : List Stm) : St := ⟨i, day, ⟨[a, b], c, d⟩, [r1, r2], [x1, x2], [y1, y2], out⟩
theorem evR_none {day : Int} {M : List Ev} {i : Nat} {p : Ps} {R : List Int} (h : ∀ x, M.head? = some x → ¬ x.day = day) : evR day M i p R = (i, p, R, 0) := by
 cases M with
 | nil => rfl
 | cons e M => unfold evR; rw [if_neg (h e rfl)]
theorem walkD_ev1 {t : Tm} {T : List Ev} {n d : Nat} {S : List (Int × Int)} {s : St} {e : Ev} {p' : Ps} {R' : List Int} {Z : St × Int} (he : T[s.i]? = some e) (hd : e.day = s.day) (ha : applyR s.p s.R e = (p', R', 0))
  (hr : walkD t T n d S { s with i := s.i + 1, p := p', R := R' } = Z) (hz : Z.2 = 0) : walkD t T n d S s = Z := by
 have hev : evR s.day (T.drop s.i) s.i s.p s.R = evR s.day (T.drop (s.i + 1)) (s.i + 1) p' R' := by
  rw [drop_cons' he]
  conv => lhs; unfold evR
  rw [if_pos hd, ha]
  rfl
 cases d with
 | zero =>
  unfold walkD at hr ⊢
  rw [hev]
  exact hr
 | succ d =>
  unfold walkD at hr ⊢
  rw [hev]
  simp only at hr
  split
  ·rename_i h0
   rw [if_pos h0] at hr
   split
   ·rw [← hr] at hz; simp at hz
   ·rename_i fr te S'
    simp only at hr
    split
    ·rename_i ht
     rw [if_pos ht] at hr
     simp only [evSt, endSt] at hr ⊢
     split
     ·rename_i hc
      rw [hc] at hr
      rw [← hr] at hz; simp at hz
     ·rename_i s2 hc
      rw [hc] at hr
      exact hr
    ·rename_i ht
     rw [if_neg ht] at hr
     exact hr
  ·rename_i h0
   rw [if_neg h0] at hr
   rw [← hr] at hz
   exact absurd hz h0
theorem rep_cons {x : List Int} {a : Int} (k : Nat) : x ++ a :: List.replicate k a = x ++ List.replicate (k + 1) a := rfl
theorem walkD_quiet {t : Tm} {T : List Ev} (d : Nat) {fr te : Int} {S : List (Int × Int)} {i : Nat} {a b c du r1 r2 : Int} {out : List Stm} : ∀ (k : Nat) (day : Int) (x1 x2 y1 y2 : List Int), (∀ x, T[i]? = some x → day + k ≤ x.day) → day + k ≤ te →
  walkD t T 2 (d + k) ((fr, te) :: S) (st2 i day a b c du r1 r2 x1 x2 y1 y2 out) = walkD t T 2 d ((fr, te) :: S) (st2 i (day + k) a b c du r1 r2 (x1 ++ List.replicate k a) (x2 ++ List.replicate k b) (y1 ++ List.replicate k r1) (y2 ++ List.replicate k r2) out) := by
 intro k
 induction k with
 | zero => intro day x1 x2 y1 y2 _ _; simp
 | succ k ih =>
  intro day x1 x2 y1 y2 h1 h2
  have hn : evR day (T.drop i) i ⟨[a, b], c, du⟩ [r1, r2] = (i, ⟨[a, b], c, du⟩, [r1, r2], 0) := evR_none (by
   intro x hx
   rw [List.head?_drop] at hx
   have := h1 x hx
   omega)
  rw [show d + (k + 1) = (d + k) + 1 by omega]
  conv => lhs; unfold walkD
  simp only [st2, hn, evSt, endSt, if_true]
  rw [if_neg (by omega)]
  have := ih (day + 1) (x1 ++ [a]) (x2 ++ [b]) (y1 ++ [r1]) (y2 ++ [r2]) (fun x hx => by have := h1 x hx; omega) (by omega)
  simp only [st2] at this
  simp only [extL, List.zipWith, List.take, List.drop, List.append_nil]
  rw [this]
  simp only [List.append_assoc, List.singleton_append, rep_cons]
  rw [show day + 1 + (k : Int) = day + ((k + 1 : Nat) : Int) by omega]
theorem walkD_close {t : Tm} {T : List Ev} {d : Nat} {fr te day : Int} {S : List (Int × Int)} {i : Nat} {a b c du r1 r2 : Int} {out : List Stm} {x1 x2 y1 y2 : List Int} {a' b' c' du' : Int} {X : Stm} {Z : St × Int} (hte : te = day) (hn : ∀ x, T[i]? = some x → ¬ x.day = day)
  (hc : closeS t T 2 (st2 i day a b c du r1 r2 (x1 ++ [a]) (x2 ++ [b]) (y1 ++ [r1]) (y2 ++ [r2]) out) fr te = some (st2 i day a' b' c' du' r1 r2 [] [] [] [] (out ++ [X])))
  (hr : walkD t T 2 d S (st2 i (day + 1) a' b' c' du' r1 r2 [] [] [] [] (out ++ [X])) = Z) :
  walkD t T 2 (d + 1) ((fr, te) :: S) (st2 i day a b c du r1 r2 x1 x2 y1 y2 out) = Z := by
 have hn : evR day (T.drop i) i ⟨[a, b], c, du⟩ [r1, r2] = (i, ⟨[a, b], c, du⟩, [r1, r2], 0) := evR_none (by
  intro x hx
  rw [List.head?_drop] at hx
  exact hn x hx)
 conv => lhs; unfold walkD
 simp only [st2, hn, evSt, endSt, if_true]
 rw [if_pos hte]
 simp only [extL, List.zipWith, List.take, List.drop, List.append_nil]
 simp only [st2] at hc hr
 rw [hc]
 exact hr
theorem walkD_stop {t : Tm} {T : List Ev} {n : Nat} {S : List (Int × Int)} {s : St} (hn : ∀ x, T[s.i]? = some x → ¬ x.day = s.day) : walkD t T n 0 S s = (s, 0) := by
 unfold walkD
 rw [evR_none (by intro x hx; rw [List.head?_drop] at hx; exact hn x hx)]
 rfl
theorem moneyP_iff' (v : Int) : moneyP v = true ↔ 0 ≤ v ∧ v ≤ 1000000000000000 := by simp [moneyP]
theorem right2 {a b c d : Int} (ha : 0 ≤ a) (hb : 0 ≤ b) (hab : a + b ≤ 1000000000000000) (hc : 0 ≤ c ∧ c ≤ 1000000000000000) (hd : 0 ≤ d ∧ d ≤ 1000000000000000) (h0 : c = 0 ∨ a + b = 0) : Ps.rightB ⟨[a, b], c, d⟩ = true := by
 have h0' : c = 0 ∨ a + (b + 0) = 0 := by omega
 simp only [Ps.rightB, scanB, List.all_cons, List.all_nil, sumI, Bool.and_eq_true, Bool.or_eq_true, decide_eq_true_eq, moneyP_iff', List.length_cons, List.length_nil]
 refine ⟨⟨⟨⟨?_, ?_⟩, ⟨?_, ?_⟩, trivial⟩, ?_, ?_⟩, ?_, ?_, hc, hd, h0'.imp id (fun h => decide_eq_true h)⟩ <;> omega
theorem mayA2 {a b c d r1 r2 : Int} {e : Ev} (hp : Ps.rightB ⟨[a, b], c, d⟩ = true) (h1 : 0 ≤ r1 ∧ r1 ≤ 10000000) (h2 : 0 ≤ r2 ∧ r2 ≤ 10000000) (hk : 1 ≤ e.kind ∧ e.kind ≤ 6) (ht : e.kind = 2 ∨ (1 ≤ e.tranche ∧ e.tranche ≤ 2)) (hm : e.kind = 6 → 0 ≤ e.amount ∧ e.amount ≤ 10000000) : mayA ⟨[a, b], c, d⟩ [r1, r2] e = true := by
 have e1 : rateB r1 = false := (rateB_iff r1).2 h1
 have e2 : rateB r2 = false := (rateB_iff r2).2 h2
 have k1 : decide (e.kind < 1) = false := by simp; omega
 have k6 : decide (6 < e.kind) = false := by simp; omega
 have kt : ((e.kind != 2) && (decide (e.tranche < 1) || decide ((2 : Int) < e.tranche))) = false := by
  rcases ht with h | h
  ·simp [h]
  ·have : decide (e.tranche < 1) = false := by simp; omega
   have : decide (2 < e.tranche) = false := by simp; omega
   simp [*]
 have km : ((e.kind != 6) || (decide (0 ≤ e.amount) && decide (e.amount ≤ 10000000))) = true := by
  by_cases h : e.kind = 6
  ·have := hm h; simp [this]
  ·simp [h]
 unfold mayA
 rw [hp]
 show (true && (decide (([r1, r2] : List Int).length = ([a, b] : List Int).length) && (!([r1, r2].any rateB) && _))) = true
 have kt' : ((e.kind != 2) && (decide (e.tranche < 1) || decide ((([r1, r2] : List Int).length : Int) < e.tranche))) = false := kt
 rw [kt', k1, k6, km]
 simp [e1, e2]
theorem charge2 {a b c d r1 r2 day ki tr m re a' b' c' : Int} (hp : Ps.rightB ⟨[a, b], c, d⟩ = true) (h1 : 0 ≤ r1 ∧ r1 ≤ 10000000) (h2 : 0 ≤ r2 ∧ r2 ≤ 10000000) (hk : ki = 1 ∨ ki = 5) (hm : 0 ≤ m ∧ m ≤ 1000000000000000)
  (ht : (tr = 1 ∧ a' = a + (m - minI m c) ∧ b' = b) ∨ (tr = 2 ∧ a' = a ∧ b' = b + (m - minI m c))) (hc : c' = c - minI m c) (hq : Ps.rightB ⟨[a', b'], c', d⟩ = true) :
  applyR ⟨[a, b], c, d⟩ [r1, r2] ⟨ki, day, tr, m, re⟩ = (⟨[a', b'], c', d⟩, [r1, r2], 0) := by
 have hmay := mayA2 (e := ⟨ki, day, tr, m, re⟩) hp h1 h2 (by show 1 ≤ ki ∧ ki ≤ 6; omega) (by show ki = 2 ∨ (1 ≤ tr ∧ tr ≤ 2); omega) (by intro (h : ki = 6); omega)
 have htr : trB 2 tr = true := by rcases ht with ⟨rfl, _⟩ | ⟨rfl, _⟩ <;> rfl
 have hask : askE ⟨[a, b], c, d⟩ [tr] m = 0 := by
  unfold askE
  rw [if_pos hp, if_pos (by show ([tr].all (trB 2)) = true; simp [htr]), if_pos ((moneyP_iff' m).2 hm)]
 have hch : chargeP ⟨[a, b], c, d⟩ tr m = ⟨[a', b'], c', d⟩ := by
  subst hc
  rcases ht with ⟨rfl, rfl, rfl⟩ | ⟨rfl, rfl, rfl⟩ <;> rfl
 have hcr : chargeR ⟨[a, b], c, d⟩ tr m = (⟨[a', b'], c', d⟩, 0) := by
  unfold chargeR
  rw [if_pos hask, hch, if_pos hq]
 unfold applyR
 rw [if_pos hmay]
 have hq2 : applyQ ⟨[a, b], c, d⟩ [r1, r2] ⟨ki, day, tr, m, re⟩ = (⟨[a', b'], c', d⟩, 0) := by
  unfold applyQ
  rw [if_pos hk]
  exact hcr
 rw [hq2]
 simp only [if_true, applyRt]
 rw [if_neg (by show ¬ ki = 6; omega)]
theorem give2 {a b c d r1 r2 day ki tr m re a' b' : Int} (hp : Ps.rightB ⟨[a, b], c, d⟩ = true) (ha : 0 ≤ a) (hb : 0 ≤ b) (h1 : 0 ≤ r1 ∧ r1 ≤ 10000000) (h2 : 0 ≤ r2 ∧ r2 ≤ 10000000) (hk : ki = 3 ∨ ki = 4) (hm : 0 ≤ m ∧ m ≤ 1000000000000000)
  (ht : (tr = 1 ∧ m ≤ a ∧ a' = a - m ∧ b' = b) ∨ (tr = 2 ∧ m ≤ b ∧ a' = a ∧ b' = b - m)) (hq : Ps.rightB ⟨[a', b'], c, d⟩ = true) :
  applyR ⟨[a, b], c, d⟩ [r1, r2] ⟨ki, day, tr, m, re⟩ = (⟨[a', b'], c, d⟩, [r1, r2], 0) := by
 have hmay := mayA2 (e := ⟨ki, day, tr, m, re⟩) hp h1 h2 (by show 1 ≤ ki ∧ ki ≤ 6; omega) (by show ki = 2 ∨ (1 ≤ tr ∧ tr ≤ 2); omega) (by intro (h : ki = 6); omega)
 have htr : trB 2 tr = true := by rcases ht with ⟨rfl, _⟩ | ⟨rfl, _⟩ <;> rfl
 have hask : askE ⟨[a, b], c, d⟩ [tr] m = 0 := by
  unfold askE
  rw [if_pos hp, if_pos (by show ([tr].all (trB 2)) = true; simp [htr]), if_pos ((moneyP_iff' m).2 hm)]
 have hrk : rankL true [r1, r2] = [1, 2] ∨ rankL true [r1, r2] = [2, 1] := by
  simp only [rankL, rankN, List.length_cons, List.length_nil, insR, plR, List.take_nil, List.drop_nil, List.nil_append, List.append_nil, List.getD_cons_zero]
  split
  ·right; rfl
  ·left; rfl
 have hgo : giveO tr (rankL true [r1, r2]) = if tr = 1 then [1, 2] else [2, 1] := by
  rcases ht with ⟨rfl, _⟩ | ⟨rfl, _⟩ <;> rcases hrk with h | h <;> rw [h] <;> decide
 have hg : giveP ⟨[a, b], c, d⟩ [r1, r2] tr m = ⟨[a', b'], c, d⟩ := by
  unfold giveP
  rw [hgo]
  rcases ht with ⟨rfl, hle, rfl, rfl⟩ | ⟨rfl, hle, rfl, rfl⟩
  ·have e1 : minI m a = m := by unfold minI; rw [if_pos hle]
   have e2 : minI 0 b' = 0 := by unfold minI; rw [if_pos hb]
   simp [intoL, intoS, e1, e2]
  ·have e1 : minI m b = m := by unfold minI; rw [if_pos hle]
   have e2 : minI 0 a' = 0 := by unfold minI; rw [if_pos ha]
   simp [intoL, intoS, e1, e2]
 have hgr : giveR ⟨[a, b], c, d⟩ [r1, r2] tr m = (⟨[a', b'], c, d⟩, 0) := by
  unfold giveR
  rw [if_pos hask, hg, if_pos hq]
 unfold applyR
 rw [if_pos hmay]
 have hq2 : applyQ ⟨[a, b], c, d⟩ [r1, r2] ⟨ki, day, tr, m, re⟩ = (⟨[a', b'], c, d⟩, 0) := by
  unfold applyQ
  rw [if_neg (by show ¬ (ki = 1 ∨ ki = 5); omega), if_neg (by show ¬ ki = 2; omega), if_pos (by show ki = 3 ∨ ki = 4; exact hk)]
  exact hgr
 rw [hq2]
 simp only [if_true, applyRt]
 rw [if_neg (by show ¬ ki = 6; omega)]
theorem pay2 {a d day tr m re : Int} (hp : Ps.rightB ⟨[a, 0], 0, d⟩ = true) (_ : 0 ≤ a) (hd : 0 ≤ d ∧ d ≤ a) (hm : 0 ≤ m ∧ m ≤ 1000000000000000) (hq : Ps.rightB ⟨[a - minI m a, 0], m - minI m a, d - minI m d⟩ = true) :
  applyR ⟨[a, 0], 0, d⟩ [1000000, 2000000] ⟨2, day, tr, m, re⟩ = (⟨[a - minI m a, 0], m - minI m a, d - minI m d⟩, [1000000, 2000000], 0) := by
 have hmay := mayA2 (e := ⟨2, day, tr, m, re⟩) (r1 := 1000000) (r2 := 2000000) hp (by omega) (by omega) (by show (1 : Int) ≤ 2 ∧ (2 : Int) ≤ 6; omega) (.inl rfl) (by intro (h : (2 : Int) = 6); omega)
 have hask : askE ⟨[a, 0], 0, d⟩ [] m = 0 := by
  unfold askE
  rw [if_pos hp, if_pos (by rfl), if_pos ((moneyP_iff' m).2 hm)]
 have r1 : rankL false [1000000, 2000000] = [1, 2] := by decide +kernel
 have r2 : rankL true [1000000, 2000000] = [2, 1] := by decide +kernel
 have hg : payP ⟨[a, 0], 0, d⟩ [1000000, 2000000] m = ⟨[a - minI m a, 0], m - minI m a, d - minI m d⟩ := by
  unfold payP payL
  rw [r1, r2]
  have e1 : minI (minI m d) a = minI m d := by unfold minI; split <;> split <;> omega
  have z1 : minI (m - minI m d) 0 = 0 := by unfold minI; split <;> split <;> omega
  have e2 : minI (m - minI m d) (a - minI m d) = minI m a - minI m d := by unfold minI; split <;> split <;> split <;> omega
  have z0 : minI 0 0 = 0 := rfl
  simp [intoL, intoS, e1, e2, z0, z1]
  constructor <;> omega
 have hgr : payR ⟨[a, 0], 0, d⟩ [1000000, 2000000] m = (⟨[a - minI m a, 0], m - minI m a, d - minI m d⟩, 0) := by
  unfold payR
  rw [if_pos hask, hg, if_pos hq]
 unfold applyR
 rw [if_pos hmay]
 have hq2 : applyQ ⟨[a, 0], 0, d⟩ [1000000, 2000000] ⟨2, day, tr, m, re⟩ = (⟨[a - minI m a, 0], m - minI m a, d - minI m d⟩, 0) := by
  unfold applyQ
  rw [if_neg (by show ¬ ((2 : Int) = 1 ∨ (2 : Int) = 5); omega), if_pos rfl]
  exact hgr
 rw [hq2]
 simp only [if_true, applyRt]
 rw [if_neg (by show ¬ (2 : Int) = 6; omega)]
theorem dotI_zero : ∀ (X Y : List Int), (∀ x ∈ X, x = 0) → dotI X Y = 0 := by
 intro X
 induction X with
 | nil => intro Y _; cases Y <;> rfl
 | cons x X ih =>
  intro Y h
  cases Y with
  | nil => rfl
  | cons y Y => simp only [dotI]; rw [h x (List.mem_cons_self ..), ih Y (fun z hz => h z (List.mem_cons_of_mem _ hz))]; simp
theorem ofR_zero {X Y : List Int} (h : ∀ x ∈ X, x = 0) : ofR X Y = (0, 0) := by
 unfold ofR
 rw [dotI_zero X Y h]
 rfl
theorem dotI_le {A C : Int} (hA : 0 ≤ A) (hC : 0 ≤ C) : ∀ (X Y : List Int), (∀ x ∈ X, 0 ≤ x ∧ x ≤ A) → (∀ y ∈ Y, 0 ≤ y ∧ y ≤ C) → 0 ≤ dotI X Y ∧ dotI X Y ≤ X.length * (A * C) := by
 intro X
 induction X with
 | nil => intro Y _ _; cases Y <;> simp [dotI]
 | cons x X ih =>
  intro Y h1 h2
  have hAC : 0 ≤ A * C := Int.mul_nonneg hA hC
  have hX : 0 ≤ (X.length : Int) * (A * C) := Int.mul_nonneg (by omega) hAC
  have hlen : (((x :: X).length : Nat) : Int) * (A * C) = (X.length : Int) * (A * C) + A * C := by rw [List.length_cons, Int.natCast_add, Int.add_mul]; simp
  cases Y with
  | nil => rw [hlen]; simp only [dotI]; omega
  | cons y Y =>
   obtain ⟨i1, i2⟩ := ih Y (fun z hz => h1 z (List.mem_cons_of_mem _ hz)) (fun z hz => h2 z (List.mem_cons_of_mem _ hz))
   have hx := h1 x (List.mem_cons_self ..)
   have hy := h2 y (List.mem_cons_self ..)
   have h3 : 0 ≤ x * y := Int.mul_nonneg hx.1 hy.1
   have h4 : x * y ≤ A * C := Int.le_trans (Int.mul_le_mul_of_nonneg_right hx.2 hy.1) (Int.mul_le_mul_of_nonneg_left hy.2 hA)
   rw [hlen]
   simp only [dotI]
   omega
theorem ofR_ok {X Y : List Int} {A : Int} (hA : 0 ≤ A) (hA2 : A ≤ 1000000000000) (hl : X.length ≤ 32) (h1 : ∀ x ∈ X, 0 ≤ x ∧ x ≤ A) (h2 : ∀ y ∈ Y, 0 ≤ y ∧ y ≤ 3000000) : (ofR X Y).2 = 0 ∧ 0 ≤ (ofR X Y).1 ∧ (ofR X Y).1 ≤ A ∧ ofR X Y = (evenI (dotI X Y) 1000000000, 0) := by
 obtain ⟨d1, d2⟩ := dotI_le hA (by decide : (0 : Int) ≤ 3000000) X Y h1 h2
 have d3 : dotI X Y ≤ 96000000 * A := by
  have : (X.length : Int) * (A * 3000000) ≤ 32 * (A * 3000000) := Int.mul_le_mul_of_nonneg_right (by omega) (by omega)
  omega
 have he : 0 ≤ evenI (dotI X Y) 1000000000 ∧ evenI (dotI X Y) 1000000000 ≤ A := by
  unfold evenI
  split <;> omega
 unfold ofR
 rw [if_neg (by omega)]
 exact ⟨rfl, he.1, he.2, rfl⟩
theorem closeF {T : List Ev} {i : Nat} {day a b du r1 r2 fr te v1 v2 : Int} {x1 x2 y1 y2 : List Int} {out : List Stm} {g : Bool} (hg : freeB out fr T = g) (hv1 : (g = true ∧ v1 = 0) ∨ (g = false ∧ ofR x1 y1 = (v1, 0))) (hv2 : ofR x2 y2 = (v2, 0)) (n1 : 0 ≤ v1) (n2 : 0 ≤ v2) (ha : 0 ≤ a) (hb : 0 ≤ b) (hsum : a + v1 + (b + v2) ≤ 1000000000000000) (hdu : 0 ≤ du ∧ du ≤ 1000000000000000) :
  closeS tF T 2 (st2 i day a b 0 du r1 r2 x1 x2 y1 y2 out) fr te = some (st2 i day (a + v1) (b + v2) 0 (leastI 25 20 (a + v1 + (b + v2))) r1 r2 [] [] [] [] (out ++ [⟨(out.length : Int) + 1, fr, te, te + 20, a + v1 + (b + v2), 0, leastI 25 20 (a + v1 + (b + v2)), g, [⟨a + v1, v1, r1⟩, ⟨b + v2, v2, r2⟩]⟩])) := by
 have hi : intrO g tF.trs [x1, x2] [y1, y2] = some [v1, v2] := by
  rcases hv1 with ⟨rfl, rfl⟩ | ⟨rfl, hv⟩
  ·simp [intrO, tF, hv2]
  ·simp [intrO, tF, hv2, hv]
 have hp : Ps.rightB ⟨[a, b], 0, du⟩ = true := right2 ha hb (by omega) (by omega) hdu (.inl rfl)
 have hq : Ps.rightB ⟨[a + v1, b + v2], 0, du⟩ = true := right2 (by omega) (by omega) hsum (by omega) hdu (.inl rfl)
 have e1 : minI v1 0 = 0 := by unfold minI; split <;> omega
 have e2 : minI v2 0 = 0 := by unfold minI; split <;> omega
 have hbs : bearS [v1, v2] ⟨[a, b], 0, du⟩ 2 = ⟨[a + v1, b + v2], 0, du⟩ := by
  simp [bearS, chargeP, e1, e2]
 have hbr : bearR ⟨[a, b], 0, du⟩ [v1, v2] = (⟨[a + v1, b + v2], 0, du⟩, 0) := by
  unfold bearR
  rw [if_pos ⟨hp, rfl, by simp [moneyP_iff']; omega⟩]
  show (if (bearS [v1, v2] ⟨[a, b], 0, du⟩ 2).rightB = true then (bearS [v1, v2] ⟨[a, b], 0, du⟩ 2, (0 : Int)) else (ps0, 5)) = _
  rw [hbs, if_pos hq]
 unfold closeS
 simp only [st2]
 rw [hg, hi]
 simp only [closeR]
 rw [hbr]
 simp only [if_true, sumI, lnL, tF, List.replicate]
 rw [show a + v1 + (b + v2 + 0) = a + v1 + (b + v2) by omega]
theorem closeC {T : List Ev} {i : Nat} {day c du r1 r2 fr te : Int} {x1 x2 y1 y2 : List Int} {out : List Stm} {g : Bool} (hg : freeB out fr T = g) (hv1 : g = true ∨ ofR x1 y1 = (0, 0)) (hv2 : ofR x2 y2 = (0, 0)) (hc : 0 ≤ c ∧ c ≤ 1000000000000000) (hdu : 0 ≤ du ∧ du ≤ 1000000000000000) :
  closeS tF T 2 (st2 i day 0 0 c du r1 r2 x1 x2 y1 y2 out) fr te = some (st2 i day 0 0 c 0 r1 r2 [] [] [] [] (out ++ [⟨(out.length : Int) + 1, fr, te, te + 20, 0, c, 0, g, [⟨0, 0, r1⟩, ⟨0, 0, r2⟩]⟩])) := by
 have hi : intrO g tF.trs [x1, x2] [y1, y2] = some [0, 0] := by
  rcases g with _ | _
  ·have hv : ofR x1 y1 = (0, 0) := by rcases hv1 with h | h; cases h; exact h
   simp [intrO, tF, hv2, hv]
  ·simp [intrO, tF, hv2]
 have hp : Ps.rightB ⟨[0, 0], c, du⟩ = true := right2 (by omega) (by omega) (by omega) hc hdu (.inr rfl)
 have e1 : minI 0 c = 0 := by unfold minI; split <;> omega
 have hbs : bearS [0, 0] ⟨[0, 0], c, du⟩ 2 = ⟨[0, 0], c, du⟩ := by
  simp [bearS, chargeP, e1]
 have hbr : bearR ⟨[0, 0], c, du⟩ [0, 0] = (⟨[0, 0], c, du⟩, 0) := by
  unfold bearR
  rw [if_pos ⟨hp, rfl, by simp [moneyP_iff']⟩]
  show (if (bearS [0, 0] ⟨[0, 0], c, du⟩ 2).rightB = true then (bearS [0, 0] ⟨[0, 0], c, du⟩ 2, (0 : Int)) else (ps0, 5)) = _
  rw [hbs, if_pos hp]
 have hl : leastI 25 20 0 = 0 := by decide
 unfold closeS
 simp only [st2]
 rw [hg, hi]
 simp only [closeR]
 rw [hbr]
 simp only [if_true, sumI, lnL, tF, List.replicate, Int.add_zero, hl]
theorem sortL_id {L : List Ev} (h : Sorted L) : sortL L = L := (sortL_one (L := L) (X := L) h (Alike.refl _)).symm
theorem tF_ok : tF.err = 0 := by decide +kernel
theorem evErrF {ki day tr m re : Int} (hk : 1 ≤ ki ∧ ki ≤ 6) (ht : (ki = 2 ∧ tr = 0) ∨ (¬ ki = 2 ∧ 1 ≤ tr ∧ tr ≤ 2)) (hm : (ki = 6 ∧ 0 ≤ m ∧ m ≤ 10000000) ∨ (¬ ki = 6 ∧ 1 ≤ m ∧ m ≤ 1000000000000000)) (hd : 10957 ≤ day ∧ day ≤ 2932896) (hr : ((ki = 4 ∨ ki = 5) ∧ 1 ≤ re ∧ re ≤ 2000) ∨ (¬ (ki = 4 ∨ ki = 5) ∧ re = 0)) : evErr tF ⟨ki, day, tr, m, re⟩ = 0 := by
 have hst : tF.start = 10957 := rfl
 have hln : (tF.trs.length : Int) = 2 := rfl
 unfold evErr
 rw [if_neg (by rw [tF_ok]; simp), if_neg (by show ¬ (ki < 1 ∨ 6 < ki); omega), if_neg (by show ¬ ((ki = 2 ∧ ¬ tr = 0) ∨ (¬ ki = 2 ∧ (tr < 1 ∨ (tF.trs.length : Int) < tr))); rw [hln]; omega),
  if_neg (by show ¬ ((ki = 6 ∧ (m < 0 ∨ 10000000 < m)) ∨ (¬ ki = 6 ∧ (m < 1 ∨ 1000000000000000 < m))); omega), if_neg (by show ¬ (day < tF.start ∨ 2932896 < day); rw [hst]; omega),
  if_neg (by show ¬ (((ki = 4 ∨ ki = 5) ∧ (re < 1 ∨ 2000 < re)) ∨ (¬ (ki = 4 ∨ ki = 5) ∧ ¬ re = 0)); omega)]
theorem repErrF {L : List Ev} {td : Int} (hL : ∀ x ∈ L, evErr tF x = 0 ∧ x.day ≤ td) (hl : L.length ≤ 2000) (hd : 10957 ≤ td ∧ td ≤ 2932896) (ho : ofE 10957 1 td = 0) : repErr tF L td = 0 := by
 have hall : L.any (lateQ td) = false := by
  rcases hb : L.any (lateQ td) with _ | _
  ·rfl
  ·obtain ⟨x, hx, hq⟩ := List.any_eq_true.1 hb
   have := (hL x hx).2
   simp [lateQ] at hq
   omega
 have hst : tF.start = 10957 := rfl
 have hcy : tF.cyc = 1 := rfl
 unfold repErr
 rw [if_pos tF_ok, if_pos (evsErr_all (fun x hx => (hL x hx).1)), if_neg (by omega), if_neg (by rw [hst]; omega), if_neg (by rw [hst, hcy, ho]; simp), hall]
 rfl
theorem walkF {L : List Ev} {td : Int} {Z : St × Int} (hL : ∀ x ∈ L, evErr tF x = 0 ∧ x.day ≤ td) (hl : L.length ≤ 2000) (hd : 10957 ≤ td ∧ td ≤ 2932896) (ho : ofE 10957 1 td = 0) (hs : Sorted L)
  (h : walkD tF L 2 (td - 10957).toNat (allL 10957 1 td) (st2 0 10957 0 0 0 0 1000000 2000000 [] [] [] [] []) = Z) : walkR tF L td = Z := by
 unfold walkR
 rw [if_pos (repErrF hL hl hd ho), sortL_id hs]
 exact h
end Go.Proofs.Ythcmpcekmkioaaa
namespace Go.Proofs.Ythcmpcekmkioaaa
open Go.RowKit
theorem closeS_lines {t : Tm} {L : List Ev} {n len : Nat} {s s' : St} {fr te : Int} (_ : t.err = 0) (hn : t.trs.length = n) (h : StOk n s len) (hc : closeS t L n s fr te = some s') : ∃ x, s'.out = s.out ++ [x] ∧ x.lines.length = n ∧ x.cycle = (s.out.length : Int) + 1 ∧ x.fr = fr ∧ x.te = te := by
 unfold closeS at hc
 split at hc
 ·cases hc
 ·rename_i V hV
  obtain ⟨v1, v2⟩ := intrO_ok hn h.n0 h.n1 (fun r hr => (h.m0 r hr).2) (fun r hr => (h.m1 r hr).2) hV
  split at hc
  ·cases hc
  ·rename_i x q hx
   simp only [Option.some.injEq] at hc
   subst hc
   refine ⟨x, rfl, ?_⟩
   unfold closeR at hx
   split at hx
   ·rename_i h0
    simp only [Option.some.injEq, Prod.mk.injEq] at hx
    obtain ⟨rfl, _⟩ := hx
    rcases bearR_err h.pr (by rw [v1]; exact h.nb.symm) (List.all_eq_true.2 fun y hy => (moneyP_iff y).2 (v2 y hy)) with ⟨_, _, h3⟩ | ⟨h3, _⟩
    ·exact ⟨lnL_length _ _ _ (h3.trans h.nb) v1 h.nr, rfl, rfl, rfl⟩
    ·rw [h0] at h3; cases h3
   ·cases hx
theorem walkD_out {t : Tm} {T : List Ev} {n : Nat} (hz : t.err = 0) (hn : t.trs.length = n) : ∀ (d : Nat) (S : List (Int × Int)) (s : St) (len : Nat) (Z : St × Int), StOk n s len → (∀ x ∈ s.out, x.lines.length = n) → walkD t T n d S s = Z → Z.2 = 0 → (∀ x ∈ Z.1.out, x.lines.length = n) ∧ Z.1.out.length ≤ s.out.length + S.length ∧ ∃ len', StOk n Z.1 len' := by
 intro d
 induction d with
 | zero =>
  intro S s len Z h hx hw hz2
  subst hw
  unfold walkD at hz2 ⊢
  exact ⟨hx, by show s.out.length ≤ _; omega, len, h.ev hz2⟩
 | succ d ih =>
  intro S s len Z h hx hw hz2
  unfold walkD at hw
  split at hw
  ·rename_i h0
   have h1 := (h.ev h0).fin
   split at hw
   ·subst hw; cases hz2
   ·rename_i fr te S'
    split at hw
    ·rename_i hte
     split at hw
     ·subst hw; cases hz2
     ·rename_i s2 hc
      obtain ⟨x, e1, e2, _⟩ := closeS_lines hz hn h1 hc
      obtain ⟨k1, k2, k3, k4⟩ := closeS_ok hz hn h1 hc
      have e1' : s2.out = s.out ++ [x] := e1
      have hk : StOk n { s2 with day := s.day + 1 } 0 := ⟨k1.pr, k1.nb, k1.nr, k1.rt, k1.n0, k1.n1, k1.m0, k1.m1⟩
      obtain ⟨i1, i2, i3⟩ := ih S' _ 0 Z hk (fun y hy => by
       have hy' : y ∈ s2.out := hy
       rw [e1'] at hy'
       rcases List.mem_append.1 hy' with h2 | h2
       ·exact hx y h2
       ·obtain rfl : y = x := by simpa using h2
        exact e2) hw hz2
      refine ⟨i1, ?_, i3⟩
      have : ({ s2 with day := s.day + 1 } : St).out.length = s.out.length + 1 := by show s2.out.length = _; rw [e1', List.length_append]; rfl
      rw [this] at i2
      simp only [List.length_cons]
      omega
    ·obtain ⟨s3, hs3⟩ : ∃ s3 : St, s3 = { endSt (evSt s (evR s.day (T.drop s.i) s.i s.p s.R)) n n with day := s.day + 1 } := ⟨_, rfl⟩
     have hw' : walkD t T n d ((fr, te) :: S') s3 = Z := by rw [hs3]; exact hw
     have hk : StOk n s3 (len + 1) := by rw [hs3]; exact ⟨h1.pr, h1.nb, h1.nr, h1.rt, h1.n0, h1.n1, h1.m0, h1.m1⟩
     have ho : s3.out = s.out := by rw [hs3]; rfl
     obtain ⟨i1, i2, i3⟩ := ih _ _ (len + 1) Z hk (by rw [ho]; exact hx) hw' hz2
     exact ⟨i1, by rw [ho] at i2; exact i2, i3⟩
  ·rename_i h0
   subst hw
   exact absurd hz2 h0
theorem walkR_out {t : Tm} {L : List Ev} {td : Int} {Z : St × Int} (hw : walkR t L td = Z) (hz2 : Z.2 = 0) : (∀ x ∈ Z.1.out, x.lines.length = t.trs.length) ∧ Z.1.out.length ≤ 300 ∧ t.err = 0 ∧ Ps.rightB Z.1.p = true := by
 unfold walkR at hw
 split at hw
 ·rename_i h0
  have hok := repErr_ok h0
  obtain ⟨h1, h2, len, h3⟩ := walkD_out hok.tm rfl _ _ _ _ Z (st0_ok hok.tm) (by simp [st0]) hw hz2
  obtain ⟨_, h4⟩ := find_spans t.cyc td 300 t.start hok.fd
  have hall : (allL t.start t.cyc td).length ≤ 300 := by unfold allL; rw [if_pos hok.fd]; exact h4
  refine ⟨h1, ?_, hok.tm, h3.pr⟩
  have : (st0 t).out.length = 0 := rfl
  omega
 ·rename_i h0
  subst hw
  exact absurd hz2 h0
end Go.Proofs.Ythcmpcekmkioaaa
namespace Go.Proofs.Ythcmpcekmkioaaa
open Go.RowKit
theorem haltW {p : Prop} (h : Hid p) : p := h.out
set_option maxRecDepth 100000 in
set_option maxHeartbeats 400000 in
theorem plainLine1_same (a0 : Int) (a1 : Int) (a2 : Int) (w : World) : Calls Try.prog 64 #[.agg #[.int .i64 a0, .int .i64 a1, .int .i64 a2], .agg #[.int .i64 a0, .int .i64 a1, .int .i64 a2]] w
  fun e w' => e = .returned (.bool true) ∧ Keeps (fun _ => False) w w' := by
 go_enter Try.func64, Try.ntmps64
 go_wp2
 go_ret
 exact ⟨rfl, (Keeps.alloc _ _).trans (Keeps.alloc _ _)⟩
set_option maxRecDepth 100000 in
set_option maxHeartbeats 400000 in
theorem sameLine_same (L : List Ln) (v1 v2 : Value) (w : World) (h1 : Reads w 3 v1 L.length (L.flatMap Ln.cells)) (h2 : Reads w 3 v2 L.length (L.flatMap Ln.cells)) (hl : L.length ≤ 1000000000000) :
  Calls Try.prog 63 #[v1, v2, .func (.func 64) #[] #[]] w fun e w' => e = .returned (.bool true) ∧ Keeps (fun _ => False) w w' := by
 have g1 := h1
 have g2 := h2
 obtain ⟨ad1, c1, rfl, _, _⟩ := g1
 obtain ⟨ad2, c2, rfl, _, _⟩ := g2
 obtain ⟨H1, H2⟩ := hid2 h1 h2; clear h2 h1
 go_enter Try.func63, Try.ntmps63
 go_wp2
 go_loopw [7] (fun i wr => ∃ k : Nat, k ≤ L.length ∧ i = .int .i64 k ∧ Keeps (fun _ => False) w wr) (fun i _ => L.length - (intOf i).toNat)
 case atStart => exact ⟨0, Nat.zero_le _, rfl, Keeps.refl _ _⟩
 case round =>
  obtain ⟨k, hk, rfl, hkp⟩ := hrel
  have Hkp := Lib.hid hkp; clear hkp
  by_cases hlt : k < L.length
  ·obtain ⟨x, hx⟩ : ∃ x, L[k]? = some x := ⟨L[k], List.getElem?_eq_getElem hlt⟩
   obtain ⟨g, o, c, he, hc⟩ := (H1.out.keeps Hkp.out (by simp)).elem Ln.cells_length hx (by decide)
   obtain ⟨g', o', c', he', hc'⟩ := (H2.out.keeps Hkp.out (by simp)).elem Ln.cells_length hx (by decide)
   simp only [Value.slice.injEq, true_and] at he he'
   obtain ⟨rfl, rfl⟩ := he
   obtain ⟨rfl, rfl⟩ := he'
   obtain ⟨e0, e1, e2⟩ := x
   have x0 : wr.cell? ⟨g, o + k * 3, none⟩ = some (.int .i64 e0) := hc 0 (by decide)
   have x1 : wr.cell? ⟨g, o + k * 3 + 1, none⟩ = some (.int .i64 e1) := hc 1 (by decide)
   have x2 : wr.cell? ⟨g, o + k * 3 + 2, none⟩ = some (.int .i64 e2) := hc 2 (by decide)
   have y0 : wr.cell? ⟨g', o' + k * 3, none⟩ = some (.int .i64 e0) := hc' 0 (by decide)
   have y1 : wr.cell? ⟨g', o' + k * 3 + 1, none⟩ = some (.int .i64 e1) := hc' 1 (by decide)
   have y2 : wr.cell? ⟨g', o' + k * 3 + 2, none⟩ = some (.int .i64 e2) := hc' 2 (by decide)
   clear hc hc'
   have Hx := Lib.hid hx; clear hx
   go_wp2
   go_still_tail 9, (by kernel_rfl)
   go_wp2_with (go_at_call 64; refine (plainLine1_same _ _ _ _).mono ?_; rintro e w' ⟨rfl, hk2⟩; have Hk2 := Lib.hid hk2; clear hk2)
   go_roundw
   case rel => exact ⟨k + 1, by omega, by go_num, (Hkp.out.trans ((Keeps.drew _).trans (Hk2.out.mono (by simp))))⟩
   case measure => simp [intOf]; omega
  ·go_wp2
   go_ret
   exact ⟨rfl, Hkp.out⟩
set_option maxRecDepth 100000 in
set_option maxHeartbeats 400000 in
theorem plainLine_same (L : List Ln) (v1 v2 : Value) (w : World) (h1 : Reads w 3 v1 L.length (L.flatMap Ln.cells)) (h2 : Reads w 3 v2 L.length (L.flatMap Ln.cells)) (hl : L.length ≤ 1000000000000) :
  Calls Try.prog 46 #[v1, v2] w fun e w' => e = .returned (.bool true) ∧ Keeps (fun _ => False) w w' := by
 obtain ⟨H1, H2⟩ := hid2 h1 h2; clear h2 h1
 go_enter Try.func46, Try.ntmps46
 go_wp2_with (go_at_call 63; refine (sameLine_same L _ _ _ H1.out H2.out hl).mono ?_; rintro e w' ⟨rfl, hk2⟩; have Hk2 := Lib.hid hk2; clear hk2)
 go_ret
 exact ⟨rfl, Hk2.out⟩
set_option maxRecDepth 100000 in
set_option maxHeartbeats 400000 in
theorem plainI641_same (a : Int) (w : World) : Calls Try.prog 29 #[.int .i64 a, .int .i64 a] w
  fun e w' => e = .returned (.bool true) ∧ w = w' := by
 go_enter Try.func29, Try.ntmps29
 go_wp2
 go_ret
 exact ⟨rfl, rfl⟩
set_option maxRecDepth 100000 in
set_option maxHeartbeats 400000 in
theorem sameI64_same (L : List Int) (v1 v2 : Value) (w : World) (h1 : Reads w 1 v1 L.length (L.flatMap i64c)) (h2 : Reads w 1 v2 L.length (L.flatMap i64c)) (hl : L.length ≤ 1000000000000) :
  Calls Try.prog 28 #[v1, v2, .func (.func 29) #[] #[]] w fun e w' => e = .returned (.bool true) ∧ Keeps (fun _ => False) w w' := by
 have g1 := h1
 have g2 := h2
 obtain ⟨ad1, c1, rfl, _, _⟩ := g1
 obtain ⟨ad2, c2, rfl, _, _⟩ := g2
 obtain ⟨H1, H2⟩ := hid2 h1 h2; clear h2 h1
 go_enter Try.func28, Try.ntmps28
 go_wp2
 go_loopw [7] (fun i wr => ∃ k : Nat, k ≤ L.length ∧ i = .int .i64 k ∧ Keeps (fun _ => False) w wr) (fun i _ => L.length - (intOf i).toNat)
 case atStart => exact ⟨0, Nat.zero_le _, rfl, Keeps.refl _ _⟩
 case round =>
  obtain ⟨k, hk, rfl, hkp⟩ := hrel
  have Hkp := Lib.hid hkp; clear hkp
  by_cases hlt : k < L.length
  ·obtain ⟨x, hx⟩ : ∃ x, L[k]? = some x := ⟨L[k], List.getElem?_eq_getElem hlt⟩
   obtain ⟨g, o, c, he, hc⟩ := (H1.out.keeps Hkp.out (by simp)).elem i64c_length hx (by decide)
   obtain ⟨g', o', c', he', hc'⟩ := (H2.out.keeps Hkp.out (by simp)).elem i64c_length hx (by decide)
   simp only [Value.slice.injEq, true_and] at he he'
   obtain ⟨rfl, rfl⟩ := he
   obtain ⟨rfl, rfl⟩ := he'
   have x0 : wr.cell? ⟨g, o + k, none⟩ = some (.int .i64 x) := by have := hc 0 (by decide); simpa [i64c] using this
   have y0 : wr.cell? ⟨g', o' + k, none⟩ = some (.int .i64 x) := by have := hc' 0 (by decide); simpa [i64c] using this
   clear hc hc'
   have Hx := Lib.hid hx; clear hx
   go_wp2
   go_still_tail 9, (by kernel_rfl)
   go_wp2_with (go_at_call 29; refine (plainI641_same _ _).mono ?_; rintro e w' ⟨rfl, rfl⟩)
   go_roundw
   case rel => exact ⟨k + 1, by omega, by go_num, (Hkp.out.trans (Keeps.drew _))⟩
   case measure => simp [intOf]; omega
  ·go_wp2
   go_ret
   exact ⟨rfl, Hkp.out⟩
set_option maxRecDepth 100000 in
set_option maxHeartbeats 400000 in
theorem plainI64_same (L : List Int) (v1 v2 : Value) (w : World) (h1 : Reads w 1 v1 L.length (L.flatMap i64c)) (h2 : Reads w 1 v2 L.length (L.flatMap i64c)) (hl : L.length ≤ 1000000000000) :
  Calls Try.prog 17 #[v1, v2] w fun e w' => e = .returned (.bool true) ∧ Keeps (fun _ => False) w w' := by
 obtain ⟨H1, H2⟩ := hid2 h1 h2; clear h2 h1
 go_enter Try.func17, Try.ntmps17
 go_wp2_with (go_at_call 28; refine (sameI64_same L _ _ _ H1.out H2.out hl).mono ?_; rintro e w' ⟨rfl, hk2⟩; have Hk2 := Lib.hid hk2; clear hk2)
 go_ret
 exact ⟨rfl, Hk2.out⟩
set_option maxRecDepth 100000 in
set_option maxHeartbeats 1600000 in
theorem sameStm_any (s : Stm) (v1 v2 : Value) (w : World) (h1 : Reads w 3 v1 s.lines.length (s.lines.flatMap Ln.cells)) (h2 : Reads w 3 v2 s.lines.length (s.lines.flatMap Ln.cells)) (hl : s.lines.length ≤ 1000000000000) :
  Calls Try.prog 31 #[s.val v1, s.val v2] w fun e w' => e = .returned (.bool true) ∧ Keeps (fun _ => False) w w' := by
 obtain ⟨cy, fr, te, du, tot, cr, mi, gr, L⟩ := s
 simp only [Stm.val] at *
 have g1 := h1
 have g2 := h2
 obtain ⟨ad1, c1, rfl, _, _⟩ := g1
 obtain ⟨ad2, c2, rfl, _, _⟩ := g2
 obtain ⟨H1, H2⟩ := hid2 h1 h2; clear h2 h1
 go_enter Try.func31, Try.ntmps31
 go_wp2_with (go_at_call 46; refine (plainLine_same L _ _ _ ((H1.out.alloc _).alloc _) ((H2.out.alloc _).alloc _) hl).mono ?_; rintro e w1 ⟨rfl, hk1⟩; have hb1 := box_old (box_alloc (heap_alloc_new w _) _) hk1 (by simp); have hb2 := box_new hk1 (by simp); simp only [World.size_alloc] at hb2; have xa := cell_of_cells hb1; have xb := cell_of_cells hb2; have xl1 := lt_of_block hb1; have xl2 := lt_of_block hb2; have Hk1 := Lib.hid hk1; clear hk1 hb1 hb2)
 go_ret
 exact ⟨rfl, ((Keeps.alloc _ _).trans (Keeps.alloc _ _)).trans (Hk1.out.mono (by simp))⟩
structure Pages19 (w : World) (v : Value) (P : List SV) : Prop where
 row : Reads w 9 v P.length (P.flatMap SV.cells)
 ln : ∀ x ∈ P, Reads w 3 x.v x.s.lines.length (x.s.lines.flatMap Ln.cells)
 len : ∀ x ∈ P, x.s.lines.length ≤ 1000
 few : P.length ≤ 1000000
theorem Pages19.keeps {w w' : World} {v : Value} {P : List SV} (h : Pages19 w v P) (hk : Keeps (fun _ => False) w w') : Pages19 w' v P := ⟨h.row.keeps hk (by simp), fun x hx => (h.ln x hx).keeps hk (by simp), h.len, h.few⟩
set_option maxRecDepth 100000 in
set_option maxHeartbeats 1600000 in
theorem sameStmL_any (P Q : List SV) (v1 v2 : Value) (w : World) (h1 : Pages19 w v1 P) (h2 : Pages19 w v2 Q) (he : P.map SV.s = Q.map SV.s) :
  Calls Try.prog 30 #[v1, v2, .func (.func 31) #[] #[]] w fun e w' => e = .returned (.bool true) ∧ Keeps (fun _ => False) w w' := by
 obtain ⟨n, hn⟩ : ∃ n, P.length = n := ⟨_, rfl⟩
 have hm : Q.length = n := by rw [← hn]; have := congrArg List.length he; simp at this; omega
 have hf := h1.few
 have g1 := h1.row
 have g2 := h2.row
 rw [hn] at g1
 rw [hm] at g2
 have r1 := g1
 have r2 := g2
 obtain ⟨ad1, c1, rfl, _, _⟩ := g1
 obtain ⟨ad2, c2, rfl, _, _⟩ := g2
 have hone : ∀ (x : SV) (u1 u2 : Value) (W : World), Reads W 3 u1 x.s.lines.length (x.s.lines.flatMap Ln.cells) → Reads W 3 u2 x.s.lines.length (x.s.lines.flatMap Ln.cells) → x.s.lines.length ≤ 1000 → Calls Try.prog 31 #[x.s.val u1, x.s.val u2] W fun e w' => e = .returned (.bool true) ∧ Keeps (fun _ => False) W w' := fun x u1 u2 W a b c => sameStm_any x.s u1 u2 W a b (by omega)
 rw [hn] at hf
 obtain ⟨H1, H2, Hn, Hm, He, R1, R2, Hone⟩ := hid8 h1 h2 hn hm he r1 r2 hone; clear hone r2 r1 he hm hn h2 h1
 go_enter Try.func30, Try.ntmps30
 go_wp2
 go_loopw [7] (fun i wr => ∃ k : Nat, k ≤ n ∧ i = .int .i64 k ∧ Keeps (fun _ => False) w wr) (fun i _ => n - (intOf i).toNat)
 case atStart => exact ⟨0, Nat.zero_le _, rfl, Keeps.refl _ _⟩
 case round =>
  obtain ⟨k, hk, rfl, hkp⟩ := hrel
  have Hkp := Lib.hid hkp
  clear hkp
  by_cases hlt : k < n
  ·obtain ⟨x, hx⟩ := get_some (L := P) (k := k) (by rw [Hn.out]; exact hlt)
   obtain ⟨y, hy⟩ := get_some (L := Q) (k := k) (by rw [Hm.out]; exact hlt)
   have hxy : x.s = y.s := by
    have e1 : (P.map SV.s)[k]? = some x.s := by rw [List.getElem?_map, hx]; rfl
    have e2 : (Q.map SV.s)[k]? = some y.s := by rw [List.getElem?_map, hy]; rfl
    rw [He.out, e2] at e1
    exact (Option.some.inj e1).symm
   have hxm := List.mem_of_getElem? hx
   have hym := List.mem_of_getElem? hy
   have hcall := fun W (hW : Keeps (fun _ => False) w W) => Hone.out x x.v y.v W ((H1.out.ln x hxm).keeps hW (by simp)) (by rw [hxy]; exact (H2.out.ln y hym).keeps hW (by simp)) (H1.out.len x hxm)
   obtain ⟨g, o, c, he, hc⟩ := (R1.out.keeps Hkp.out (by simp)).elem SV.cells_length hx (by decide)
   obtain ⟨g', o', c', he', hc'⟩ := (R2.out.keeps Hkp.out (by simp)).elem SV.cells_length hy (by decide)
   simp only [Value.slice.injEq, true_and] at he he'
   obtain ⟨rfl, rfl⟩ := he
   obtain ⟨rfl, rfl⟩ := he'
   obtain ⟨⟨cy, fr, te, du, tot, cr, mi, gr, lb⟩, ax, cx⟩ := x
   obtain ⟨⟨cy2, fr2, te2, du2, tot2, cr2, mi2, gr2, lb2⟩, ay, cyy⟩ := y
   simp only [Stm.mk.injEq] at hxy
   obtain ⟨rfl, rfl, rfl, rfl, rfl, rfl, rfl, rfl, rfl⟩ := hxy
   obtain ⟨l, hl⟩ : ∃ l, lb.length = l := ⟨_, rfl⟩
   simp only [SV.v, Stm.val] at hcall
   rw [hl] at hcall
   have x0 : wr.cell? ⟨g, o + k * 9, none⟩ = some (.int .i64 cy) := hc 0 (by decide)
   have x1 : wr.cell? ⟨g, o + k * 9 + 1, none⟩ = some (.int .i64 fr) := hc 1 (by decide)
   have x2 : wr.cell? ⟨g, o + k * 9 + 2, none⟩ = some (.int .i64 te) := hc 2 (by decide)
   have x3 : wr.cell? ⟨g, o + k * 9 + 3, none⟩ = some (.int .i64 du) := hc 3 (by decide)
   have x4 : wr.cell? ⟨g, o + k * 9 + 4, none⟩ = some (.slice ax l cx) := by have := hc 4 (by decide); rw [← hl]; exact this
   have x5 : wr.cell? ⟨g, o + k * 9 + 5, none⟩ = some (.int .i64 tot) := hc 5 (by decide)
   have x6 : wr.cell? ⟨g, o + k * 9 + 6, none⟩ = some (.int .i64 cr) := hc 6 (by decide)
   have x7 : wr.cell? ⟨g, o + k * 9 + 7, none⟩ = some (.int .i64 mi) := hc 7 (by decide)
   have x8 : wr.cell? ⟨g, o + k * 9 + 8, none⟩ = some (.bool gr) := hc 8 (by decide)
   have y0 : wr.cell? ⟨g', o' + k * 9, none⟩ = some (.int .i64 cy) := hc' 0 (by decide)
   have y1 : wr.cell? ⟨g', o' + k * 9 + 1, none⟩ = some (.int .i64 fr) := hc' 1 (by decide)
   have y2 : wr.cell? ⟨g', o' + k * 9 + 2, none⟩ = some (.int .i64 te) := hc' 2 (by decide)
   have y3 : wr.cell? ⟨g', o' + k * 9 + 3, none⟩ = some (.int .i64 du) := hc' 3 (by decide)
   have y4 : wr.cell? ⟨g', o' + k * 9 + 4, none⟩ = some (.slice ay l cyy) := by have := hc' 4 (by decide); rw [← hl]; exact this
   have y5 : wr.cell? ⟨g', o' + k * 9 + 5, none⟩ = some (.int .i64 tot) := hc' 5 (by decide)
   have y6 : wr.cell? ⟨g', o' + k * 9 + 6, none⟩ = some (.int .i64 cr) := hc' 6 (by decide)
   have y7 : wr.cell? ⟨g', o' + k * 9 + 7, none⟩ = some (.int .i64 mi) := hc' 7 (by decide)
   have y8 : wr.cell? ⟨g', o' + k * 9 + 8, none⟩ = some (.bool gr) := hc' 8 (by decide)
   clear hc hc'
   obtain ⟨Hx, Hy, Hxm, Hym, Hcall, Hl⟩ := hid6 hx hy hxm hym hcall hl; clear hl hcall hym hxm hy hx
   go_wp2
   go_still_tail 9, (by kernel_rfl)
   go_wp2_with (go_at_call 31; (with_reducible refine (Hcall.out _ (Hkp.out.trans (Keeps.drew _))).mono ?_); rintro e w' ⟨rfl, hk2⟩; have Hk2 := Lib.hid hk2; clear hk2)
   go_roundw
   case rel => exact ⟨k + 1, by omega, by go_num, (Hkp.out.trans ((Keeps.drew _).trans (Hk2.out.mono (by simp))))⟩
   case measure => simp [intOf]; omega
  ·go_wp2
   go_ret
   exact ⟨rfl, Hkp.out⟩
set_option maxRecDepth 100000 in
set_option maxHeartbeats 400000 in
theorem pages19_any (P Q : List SV) (v1 v2 : Value) (w : World) (h1 : Pages19 w v1 P) (h2 : Pages19 w v2 Q) (he : P.map SV.s = Q.map SV.s) :
  Calls Try.prog 18 #[v1, v2] w fun e w' => e = .returned (.bool true) ∧ Keeps (fun _ => False) w w' := by
 have hc := sameStmL_any P Q v1 v2 w h1 h2 he
 obtain ⟨H1, H2, He, Hc⟩ := hid4 h1 h2 he hc; clear hc he h2 h1
 go_enter Try.func18, Try.ntmps18
 go_wp2_with (go_at_call 30; (with_reducible refine (Hc.out).mono ?_); rintro e w' ⟨rfl, hk2⟩; have Hk2 := Lib.hid hk2; clear hk2)
 go_ret
 exact ⟨rfl, Hk2.out⟩
set_option maxRecDepth 100000 in
set_option maxHeartbeats 1600000 in
theorem samePos_any (L : List Int) (n : Nat) (ad1 ad2 : Option Addr) (c1 c2 : Nat) (cr du : Int) (w : World) (hn : L.length = n) (h1 : Reads w 1 (.slice ad1 n c1) n (L.flatMap i64c)) (h2 : Reads w 1 (.slice ad2 n c2) n (L.flatMap i64c)) (hl : n ≤ 1000000000000) :
  Calls Try.prog 16 #[.agg #[.slice ad1 n c1, .int .i64 cr, .int .i64 du], .agg #[.slice ad2 n c2, .int .i64 cr, .int .i64 du]] w fun e w' => e = .returned (.bool true) ∧ Keeps (fun _ => False) w w' := by
 have hc := fun W (hW : Keeps (fun _ => False) w W) => plainI64_same L (.slice ad1 n c1) (.slice ad2 n c2) W (by rw [hn]; exact h1.keeps hW (by simp)) (by rw [hn]; exact h2.keeps hW (by simp)) (by omega)
 obtain ⟨H1, H2, Hc, Hn⟩ := hid4 h1 h2 hc hn; clear hn hc h2 h1
 go_enter Try.func16, Try.ntmps16
 go_wp2_with (go_at_call 17; (with_reducible refine (Hc.out _ ((Keeps.alloc _ _).trans_alloc)).mono ?_); rintro e w1 ⟨rfl, hk1⟩; have hb1 := box_old (box_alloc (heap_alloc_new w _) _) hk1 (by simp); have hb2 := box_new hk1 (by simp); simp only [World.size_alloc] at hb2; have xa := cell_of_cells hb1; have xb := cell_of_cells hb2; have xl1 := lt_of_block hb1; have xl2 := lt_of_block hb2; have Hk1 := Lib.hid hk1; clear hk1 hb1 hb2)
 go_ret
 exact ⟨rfl, ((Keeps.alloc _ _).trans (Keeps.alloc _ _)).trans (Hk1.out.mono (by simp))⟩
set_option maxRecDepth 100000 in
set_option maxHeartbeats 400000 in
theorem flat19_any (w : World) : Calls Try.prog 21 #[] w fun e w' => ∃ B, e = .returned (.agg #[.int .i64 1000000000000000, .slice (some ⟨B, 0, none⟩) 2 2, .int .i64 1, .int .i64 20, .int .i64 25, .int .i64 20, .int .i64 10957]) ∧ Reads w' 2 (.slice (some ⟨B, 0, none⟩) 2 2) 2 (tF.trs.flatMap Tn.cells) ∧ Keeps (fun _ => False) w w' := by
 go_enter Try.func21, Try.ntmps21
 go_wp2_with fail
 have hr : Reads ((w.alloc (Obj.cells #[.int .i64 1000000000000000, .slice (some ⟨w.heap.size + 1, 0, none⟩) 2 2, .int .i64 1, .int .i64 20, .int .i64 25, .int .i64 20, .int .i64 10957] 24)).alloc (Obj.cells #[Value.int IntKind.i64 1000000, Value.bool true, Value.int IntKind.i64 2000000, Value.bool false] 67)) 2 (.slice (some ⟨w.heap.size + 1, 0, none⟩) 2 2) 2 (tF.trs.flatMap Tn.cells) := Reads.litAt _ _ _ _ _ _ (by simp) rfl
 exact bodyPost_ret (v := .agg #[.int .i64 1000000000000000, .slice (some ⟨w.heap.size + 1, 0, none⟩) 2 2, .int .i64 1, .int .i64 20, .int .i64 25, .int .i64 20, .int .i64 10957]) (by simp [results, Try.results21, go_sem]) rfl ⟨_, rfl, hr, by (repeat (first | exact Keeps.refl _ _ | exact Keeps.alloc _ _ | exact Keeps.drew _ | exact Keeps.drewN _ _ | refine Keeps.trans_drew ?_ | refine Keeps.trans_drewN ?_ | refine Keeps.trans_alloc ?_))⟩
theorem Pages19.of {w0 w' : World} {n : Nat} {s : St} {vb vr vo : Value} {P : List SV} (h : WalkRes w0 n s vb vr vo P w') (h1 : ∀ x ∈ s.out, x.lines.length ≤ 8) (h2 : s.out.length ≤ 300) : Pages19 w' vo P where
 row := Reads.of_owns h.out
 ln := fun x hx => Reads.of_owns (h.ln x hx)
 len := fun x hx => by
  have := h1 x.s (by rw [← h.lp]; exact List.mem_map_of_mem hx)
  omega
 few := by
  have := congrArg List.length h.lp
  rw [List.length_map] at this
  omega
theorem map_one {P : List SV} {X : Stm} (h : P.map SV.s = [X]) : ∃ a c, P = [⟨X, a, c⟩] := by
 rcases P with _ | ⟨⟨s, a, c⟩, _ | ⟨y, P⟩⟩
 ·simp at h
 ·simp only [List.map_cons, List.map_nil, List.cons.injEq, and_true] at h
  subst h
  exact ⟨a, c, rfl⟩
 ·simp at h
theorem map_two {P : List SV} {X Y : Stm} (h : P.map SV.s = [X, Y]) : ∃ a c a' c', P = [⟨X, a, c⟩, ⟨Y, a', c'⟩] := by
 rcases P with _ | ⟨⟨s, a, c⟩, _ | ⟨⟨s', a', c'⟩, _ | ⟨y, P⟩⟩⟩
 ·simp at h
 ·simp at h
 ·simp only [List.map_cons, List.map_nil, List.cons.injEq, and_true] at h
  obtain ⟨rfl, rfl⟩ := h
  exact ⟨a, c, a', c', rfl⟩
 ·simp at h
end Go.Proofs.Ythcmpcekmkioaaa
