/- An account, day by day, in plain lists. -/
import Derived.Test.YthcmpcekmkioaaaB7
namespace Go.Proofs.Ythcmpcekmkioaaa
open Go.RowKit
def c4S (B : Nat) (li : Int) (vt : Value) (cy du mf mp st : Int) (v0 v1 : Value) (W : World) : Prop := W.cell? ⟨B, 0, none⟩ = some (.int .i64 li) ∧ W.cell? ⟨B, 1, none⟩ = some vt ∧ W.cell? ⟨B, 2, none⟩ = some (.int .i64 cy) ∧ W.cell? ⟨B, 3, none⟩ = some (.int .i64 du) ∧ W.cell? ⟨B, 4, none⟩ = some (.int .i64 mf) ∧ W.cell? ⟨B, 5, none⟩ = some (.int .i64 mp) ∧ W.cell? ⟨B, 6, none⟩ = some (.int .i64 st) ∧ W.cell? ⟨B, 14, none⟩ = some v0 ∧ W.cell? ⟨B, 15, none⟩ = some v1
theorem c4S.keep {B : Nat} {li : Int} {vt : Value} {cy du mf mp st : Int} {v0 v1 : Value} {W W' : World} (h : c4S B li vt cy du mf mp st v0 v1 W) (hk : Keeps (fun _ => False) W W') : c4S B li vt cy du mf mp st v0 v1 W' := by
 obtain ⟨h1, h2, h3, h4, h5, h6, h7, h8, h9⟩ := h
 have k : ∀ {p : Addr} {u : Value}, W.cell? p = some u → W'.cell? p = some u := fun hc => (hk.cell (cell_lt hc) (by simp)).trans hc
 exact ⟨k h1, k h2, k h3, k h4, k h5, k h6, k h7, k h8, k h9⟩
def c7S (B b3 : Nat) (li : Int) (vt : Value) (cy du mf mp st : Int) (vo vb : Value) (pc pd : Int) (vr : Value) (fr te : Int) (W : World) : Prop := W.cell? ⟨B, 0, none⟩ = some (.int .i64 li) ∧ W.cell? ⟨B, 1, none⟩ = some vt ∧ W.cell? ⟨B, 2, none⟩ = some (.int .i64 cy) ∧ W.cell? ⟨B, 3, none⟩ = some (.int .i64 du) ∧ W.cell? ⟨B, 4, none⟩ = some (.int .i64 mf) ∧ W.cell? ⟨B, 5, none⟩ = some (.int .i64 mp) ∧ W.cell? ⟨B, 6, none⟩ = some (.int .i64 st) ∧
 W.cell? ⟨B, 16, none⟩ = some vo ∧ W.cell? ⟨B, 10, none⟩ = some vb ∧ W.cell? ⟨B, 11, none⟩ = some (.int .i64 pc) ∧ W.cell? ⟨B, 12, none⟩ = some (.int .i64 pd) ∧ W.cell? ⟨B, 13, none⟩ = some vr ∧ W.cell? ⟨b3, 0, none⟩ = some (.int .i64 fr) ∧ W.cell? ⟨b3, 1, none⟩ = some (.int .i64 te)
theorem c7S.keep {B b3 : Nat} {li : Int} {vt : Value} {cy du mf mp st : Int} {vo vb : Value} {pc pd : Int} {vr : Value} {fr te : Int} {W W' : World} (h : c7S B b3 li vt cy du mf mp st vo vb pc pd vr fr te W) (hk : Keeps (fun _ => False) W W') : c7S B b3 li vt cy du mf mp st vo vb pc pd vr fr te W' := by
 obtain ⟨h1, h2, h3, h4, h5, h6, h7, h8, h9, h10, h11, h12, h13, h14⟩ := h
 have k : ∀ {p : Addr} {u : Value}, W.cell? p = some u → W'.cell? p = some u := fun hc => (hk.cell (cell_lt hc) (by simp)).trans hc
 exact ⟨k h1, k h2, k h3, k h4, k h5, k h6, k h7, k h8, k h9, k h10, k h11, k h12, k h13, k h14⟩
def r13S (B b8 : Nat) (vo : Value) (cy fr te du : Int) (vl : Value) (tt cr mi : Int) (g : Bool) (W : World) : Prop := W.cell? ⟨B, 16, none⟩ = some vo ∧ W.cell? ⟨b8, 0, none⟩ = some (.int .i64 cy) ∧ W.cell? ⟨b8, 1, none⟩ = some (.int .i64 fr) ∧ W.cell? ⟨b8, 2, none⟩ = some (.int .i64 te) ∧ W.cell? ⟨b8, 3, none⟩ = some (.int .i64 du) ∧ W.cell? ⟨b8, 4, none⟩ = some vl ∧ W.cell? ⟨b8, 5, none⟩ = some (.int .i64 tt) ∧ W.cell? ⟨b8, 6, none⟩ = some (.int .i64 cr) ∧ W.cell? ⟨b8, 7, none⟩ = some (.int .i64 mi) ∧ W.cell? ⟨b8, 8, none⟩ = some (.bool g)
theorem r13S.keep {B b8 : Nat} {vo : Value} {cy fr te du : Int} {vl : Value} {tt cr mi : Int} {g : Bool} {W W' : World} {S : Nat → Prop} (h : r13S B b8 vo cy fr te du vl tt cr mi g W) (hk : Keeps S W W') (h1 : ¬ S B) (h2 : ¬ S b8) : r13S B b8 vo cy fr te du vl tt cr mi g W' := by
 obtain ⟨c0, c1, c2, c3, c4, c5, c6, c7, c8, c9⟩ := h
 have k : ∀ {p : Addr} {u : Value}, ¬ S p.block → W.cell? p = some u → W'.cell? p = some u := fun hn hc => (hk.cell (cell_lt hc) hn).trans hc
 exact ⟨k h1 c0, k h2 c1, k h2 c2, k h2 c3, k h2 c4, k h2 c5, k h2 c6, k h2 c7, k h2 c8, k h2 c9⟩
theorem r13S.of {B b8 : Nat} {vo : Value} {cy fr te du : Int} {vl : Value} {tt cr mi : Int} {g : Bool} {W : World} {C : Array Value} {e : TypeId} (h : W.heap[B]? = some (.cells C e (0, 0))) (hv : C[16]? = some vo) (h8 : W.heap[b8]? = some (.cells #[.int .i64 cy, .int .i64 fr, .int .i64 te, .int .i64 du, vl, .int .i64 tt, .int .i64 cr, .int .i64 mi, .bool g] 49 (0, 0))) : r13S B b8 vo cy fr te du vl tt cr mi g W :=
 ⟨(cell_of_cells h 16).trans hv, cell_of_cells h8 0, cell_of_cells h8 1, cell_of_cells h8 2, cell_of_cells h8 3, cell_of_cells h8 4, cell_of_cells h8 5, cell_of_cells h8 6, cell_of_cells h8 7, cell_of_cells h8 8⟩
set_option maxRecDepth 100000 in
set_option maxHeartbeats 6400000 in
theorem runClose_nil {w0 : World} {X : Fx} {B : Nat} {t : Tm} {n : Nat} {vt : Value} {L : List Ev} {f0 f1 : Value} {s : St} {vl vb vr : Value} {g0 g1 : Nat} {S0 S1 : List SI} {vo : Value} {P : List SV} {W : World} (h : RunV w0 X B t n vt L f0 f1 .nilFunc s vl vb vr g0 g1 S0 S1 vo P W)
  (hz : t.err = 0) (hn : t.trs.length = n) (hl : L.length ≤ 1000000) (hok : ∀ x ∈ L, x.kind = 2 → 0 ≤ x.amount ∧ x.amount ≤ 1000000000000000) (hpr : s.p.rightB = true) (hrt : ∀ x ∈ s.R, 0 ≤ x ∧ x ≤ 10000000)
  (he0 : ∀ r ∈ s.e0, ∀ y ∈ r, 0 ≤ y ∧ y ≤ 1000000000000000) (he1 : ∀ r ∈ s.e1, ∀ y ∈ r, 0 ≤ y ∧ y ≤ 10000000) (hlen : ∀ (k : Nat) (a b : List Int), s.e0[k]? = some a → s.e1[k]? = some b → a.length = b.length ∧ a.length ≤ 40000)
  (hcy : s.out.length + 1 ≤ 300) (fr te : Int) (hsp : -135140 ≤ fr ∧ fr ≤ te ∧ te ≤ 2932896) (C : Option St) (hC : closeS t L n s fr te = C) :
  Calls Try.prog 45 #[(.pointer (some ⟨B, 0, none⟩)), .agg #[.int .i64 fr, .int .i64 te]] W fun e W' => match C with
   | none => e = .returned (.int .i64 5) ∧ RunV w0 X B t n vt L f0 f1 .nilFunc s vl vb vr g0 g1 S0 S1 vo P W'
   | some s' => e = .returned (.int .i64 0) ∧ ∃ vb' g0' g1' vo' P', RunV w0 X B t n vt L f0 f1 .nilFunc s' vl vb' vr g0' g1' (List.replicate n si0) (List.replicate n si0) vo' P' W' := by
 obtain ⟨i0, hi, hi0, hi1, hi2⟩ := info_parts info_tStm
 have hnum := tm_nums hz
 rw [hn] at hnum
 obtain ⟨⟨l0, l1⟩, _⟩ := hnum
 obtain ⟨adT, cT, rfl⟩ : ∃ a c, vt = .slice a n c := by obtain ⟨a, c, h, _⟩ := h.trs; exact ⟨a, c, h⟩
 obtain ⟨ab, cb, rfl⟩ : ∃ a c, vb = .slice a n c := by obtain ⟨a, c, h, _⟩ := ownsRow_shape h.bal; exact ⟨a, c, h⟩
 obtain ⟨ar, cr, rfl⟩ : ∃ a c, vr = .slice a n c := by obtain ⟨a, c, h, _⟩ := ownsRow_shape h.rts; exact ⟨a, c, h⟩
 obtain ⟨m, hmm⟩ : ∃ m, P.length = m := ⟨_, rfl⟩
 obtain ⟨av, cv, rfl⟩ : ∃ a c, vo = .slice a m c := by obtain ⟨a, c, h, _⟩ := ownsRow_shape h.out; rw [hmm] at h; exact ⟨a, c, h⟩
 have hpo : s.out.length = m := by rw [← h.lp, List.length_map]; exact hmm
 have hm1 : m + 1 ≤ 300 := by rw [← hpo]; exact hcy
 obtain ⟨fb, hfb⟩ : ∃ fb, freeB s.out fr L = fb := ⟨_, rfl⟩
 have hfree := fun (W' : World) (hW : Keeps (fun _ => False) W W') => runFree_any (h.keep0 hW) hl (by omega) hok fr te
 rw [hfb] at hfree
 obtain ⟨O, hO⟩ : ∃ O, intrO fb t.trs s.e0 s.e1 = O := ⟨_, rfl⟩
 have hint := fun (W' : World) (hW : Keeps (fun _ => False) W W') => cloInterest_any t (.slice adT n cT) S0 S1 (some ⟨g0, 0, none⟩) (some ⟨g1, 0, none⟩) n n n fb W' hz hn (h.keep0 hW).trs (si_reads (h.keep0 hW).o0 h.n0) h.n0
  (fun x hx => ⟨Reads.of_owns ((h.keep0 hW).i0 x hx), by
   obtain ⟨k, hk⟩ := List.getElem?_of_mem hx
   obtain ⟨y, hy⟩ := get_some (L := S1) (k := k) (by rw [h.n1, ← h.n0]; exact lt_of_get hk)
   have := hlen k x.L y.L (by rw [← h.l0, List.getElem?_map, hk]; rfl) (by rw [← h.l1, List.getElem?_map, hy]; rfl)
   unfold maxLen; omega⟩)
  (si_reads (h.keep0 hW).o1 h.n1) h.n1
  (fun y hy => ⟨Reads.of_owns ((h.keep0 hW).i1 y hy), by
   obtain ⟨k, hk⟩ := List.getElem?_of_mem hy
   obtain ⟨x, hx⟩ := get_some (L := S0) (k := k) (by rw [h.n0, ← h.n1]; exact lt_of_get hk)
   have := hlen k x.L y.L (by rw [← h.l0, List.getElem?_map, hx]; rfl) (by rw [← h.l1, List.getElem?_map, hk]; rfl)
   unfold maxLen; omega⟩)
  (fun k x y hx hy => hlen k x.L y.L (by rw [← h.l0, List.getElem?_map, hx]; rfl) (by rw [← h.l1, List.getElem?_map, hy]; rfl))
  (fun x hx => he0 x.L (by rw [← h.l0]; exact List.mem_map_of_mem hx)) (fun x hx => he1 x.L (by rw [← h.l1]; exact List.mem_map_of_mem hx))
 rw [h.l0, h.l1, hO] at hint
 unfold closeS at hC
 rw [hfb, hO] at hC
 have ka : Keeps (fun _ => False) W (W.alloc (.cells #[.int .i64 fr, .int .i64 te] 46)) := Keeps.alloc _ _
 have hA := h.keep0 ka
 have hb3 := heap_alloc_new W (.cells #[.int .i64 fr, .int .i64 te] 46)
 have s0 := cell_of_cells hb3 0
 have s1 := cell_of_cells hb3 1
 have b16 := cell_of_cells h.blk 16
 rcases O with _ | V
 ·simp only at hC
  subst hC
  obtain ⟨Hi, Hi0, Hi1, Hi2, H, Hz, Hn, Hok, Hpr⟩ := hid9 hi hi0 hi1 hi2 h hz hn hok hpr; clear hpr hok hn hz h hi2 hi1 hi0 hi; obtain ⟨Hrt, He0, He1, Hlen, Hmm, Hpo, Hfb, Hfree, HO⟩ := hid9 hrt he0 he1 hlen hmm hpo hfb hfree hO; clear hO hfree hfb hpo hmm hlen he1 he0 hrt; obtain ⟨Hint, Ka, HA, Hb3⟩ := hid4 hint ka hA hb3; clear hb3 hA ka hint
  clear s0 s1 b16
  go_enter Try.func45, Try.ntmps45
  go_wp2_with fail
  refine (Hfree.out _ Ka.out).mono ?_
  rintro e w2 ⟨rfl, hk2⟩
  have hk2w := Ka.out.nt hk2
  have hr2 := H.out.keep0 hk2w
  have hS4 := (show c4S B t.limit (.slice adT n cT) t.cyc t.due t.minFixed t.minPart t.start (.slice (some ⟨g0, 0, none⟩) n n) (.slice (some ⟨g1, 0, none⟩) n n) w2 from ⟨cell_of_cells hr2.blk 0, cell_of_cells hr2.blk 1, cell_of_cells hr2.blk 2, cell_of_cells hr2.blk 3, cell_of_cells hr2.blk 4, cell_of_cells hr2.blk 5, cell_of_cells hr2.blk 6, cell_of_cells hr2.blk 14, cell_of_cells hr2.blk 15⟩).keep (Keeps.drew _)
  obtain ⟨Hk2, Hk2w, Hr2, HS4⟩ := hid4 hk2 hk2w hr2 hS4; clear hS4 hr2 hk2w hk2
  go_wp2_with fail
  refine wp_region_mixw (c4S B t.limit (.slice adT n cT) t.cyc t.due t.minFixed t.minPart t.start (.slice (some ⟨g0, 0, none⟩) n n) (.slice (some ⟨g1, 0, none⟩) n n)) (.take 0 (.take 1 (.take 2 (.take 3 (.take 4 (.take 5 (.take 6 (.take 7 (.take 8 (.take 9 (.take 10 (.take 11 (.take 12 (.take 13 (.take 14 (.move 15 (.take 16 (.take 17 (.take 18 (.take 19 (.take 20 .done))))))))))))))))))))) (by kernel_rfl) (by kernel_rfl) ?_ ?_
  ·exact HS4.out
  intro w3 hs3 hk3
  repeat (first
   | (refine mix_skip rfl (by rfl) ?_; try simp only [Act.put, List.setIfInBounds_toArray, List.set_cons_zero, List.set_cons_succ])
   | (refine mix_skipm rfl (by rfl) ?_; try simp only [Act.put, List.setIfInBounds_toArray, List.set_cons_zero, List.set_cons_succ])
   | (refine mix_take (v := ?_) rfl (by rfl) ?_ ?_; rotate_left; (· intro w' hSw; unfold c4S at hSw; go_simp; (try with_reducible rfl)); rotate_right; try simp only [Act.put, List.setIfInBounds_toArray, List.set_cons_zero, List.set_cons_succ]))
  refine mix_move rfl (fun K hK => ?_)
  go_simp
  go_at_call 61
  ((with_reducible refine (Hint.out _ (Hk2w.out.nt hk3)).mono ?_); rintro e w4 ⟨rfl, hk4⟩; dsimp only)
  refine hK.out _ _ (by exact hs3.keep hk4) ?_
  clear hK K
  try simp only [Act.put, List.setIfInBounds_toArray, List.set_cons_zero, List.set_cons_succ]
  repeat (first
   | (refine mix_skip rfl (by rfl) ?_; try simp only [Act.put, List.setIfInBounds_toArray, List.set_cons_zero, List.set_cons_succ])
   | (refine mix_skipm rfl (by rfl) ?_; try simp only [Act.put, List.setIfInBounds_toArray, List.set_cons_zero, List.set_cons_succ])
   | (refine mix_take (v := ?_) rfl (by rfl) ?_ ?_; rotate_left; (· intro w' hSw; unfold c4S at hSw; go_simp; (try with_reducible rfl)); rotate_right; try simp only [Act.put, List.setIfInBounds_toArray, List.set_cons_zero, List.set_cons_succ]))
  refine mix_done ?_
  have hr4 := (Hr2.out.keep0 hk3).keep0 hk4
  clear hs3
  obtain ⟨Hr4, Hk3, Hk4⟩ := hid3 hr4 hk3 hk4; clear hk4 hk3 hr4
  go_wp2
  go_ret
  exact ⟨rfl, Hr4.out⟩
 ·simp only at hC
  obtain ⟨hVl, hVb⟩ := intrO_ok hn (by rw [← h.l0, List.length_map]; exact h.n0) (by rw [← h.l1, List.length_map]; exact h.n1) he0 he1 hO
  rw [hpo] at hC
  obtain ⟨D, hD⟩ : ∃ D, closeR t ((m : Int) + 1) fr te s.p s.R V fb = D := ⟨_, rfl⟩
  rw [hD] at hC
  obtain ⟨⟨x, q, z⟩, hcv⟩ : ∃ c, cloVal D = c := ⟨_, rfl⟩
  obtain ⟨Hi, Hi0, Hi1, Hi2, H, Hz, Hn, Hok, Hpr⟩ := hid9 hi hi0 hi1 hi2 h hz hn hok hpr; clear hpr hok hn hz h hi2 hi1 hi0 hi; obtain ⟨Hrt, He0, He1, Hlen, Hmm, Hpo, Hfb, Hfree, HO⟩ := hid9 hrt he0 he1 hlen hmm hpo hfb hfree hO; clear hO hfree hfb hpo hmm hlen he1 he0 hrt; obtain ⟨Hint, Ka, HA, Hb3, HVl, HVb, HD, Hcv, HC⟩ := hid9 hint ka hA hb3 hVl hVb hD hcv hC; clear hC hcv hD hVb hVl hb3 hA ka hint
  clear s0 s1 b16
  go_enter Try.func45, Try.ntmps45
  go_wp2_with fail
  refine (Hfree.out _ Ka.out).mono ?_
  rintro e w2 ⟨rfl, hk2⟩
  have hk2w := Ka.out.nt hk2
  have hr2 := H.out.keep0 hk2w
  have hb32 := box_old Hb3.out hk2 (by simp)
  have hS4 := (show c4S B t.limit (.slice adT n cT) t.cyc t.due t.minFixed t.minPart t.start (.slice (some ⟨g0, 0, none⟩) n n) (.slice (some ⟨g1, 0, none⟩) n n) w2 from ⟨cell_of_cells hr2.blk 0, cell_of_cells hr2.blk 1, cell_of_cells hr2.blk 2, cell_of_cells hr2.blk 3, cell_of_cells hr2.blk 4, cell_of_cells hr2.blk 5, cell_of_cells hr2.blk 6, cell_of_cells hr2.blk 14, cell_of_cells hr2.blk 15⟩).keep (Keeps.drew _)
  obtain ⟨Hk2, Hk2w, Hr2, HS4, Hb32⟩ := hid5 hk2 hk2w hr2 hS4 hb32; clear hb32 hS4 hr2 hk2w hk2
  go_wp2_with fail
  refine wp_region_mixw (c4S B t.limit (.slice adT n cT) t.cyc t.due t.minFixed t.minPart t.start (.slice (some ⟨g0, 0, none⟩) n n) (.slice (some ⟨g1, 0, none⟩) n n)) (.take 0 (.take 1 (.take 2 (.take 3 (.take 4 (.take 5 (.take 6 (.take 7 (.take 8 (.take 9 (.take 10 (.take 11 (.take 12 (.take 13 (.take 14 (.move 15 (.take 16 (.take 17 (.take 18 (.take 19 (.take 20 .done))))))))))))))))))))) (by kernel_rfl) (by kernel_rfl) ?_ ?_
  ·exact HS4.out
  intro w3 hs3 hk3
  repeat (first
   | (refine mix_skip rfl (by rfl) ?_; try simp only [Act.put, List.setIfInBounds_toArray, List.set_cons_zero, List.set_cons_succ])
   | (refine mix_skipm rfl (by rfl) ?_; try simp only [Act.put, List.setIfInBounds_toArray, List.set_cons_zero, List.set_cons_succ])
   | (refine mix_take (v := ?_) rfl (by rfl) ?_ ?_; rotate_left; (· intro w' hSw; unfold c4S at hSw; go_simp; (try with_reducible rfl)); rotate_right; try simp only [Act.put, List.setIfInBounds_toArray, List.set_cons_zero, List.set_cons_succ]))
  refine mix_move rfl (fun K hK => ?_)
  go_simp
  go_at_call 61
  ((with_reducible refine (Hint.out _ (Hk2w.out.nt hk3)).mono ?_); rintro e w4 ⟨gV, rfl, hrV, hk4, hgV⟩; dsimp only)
  refine hK.out _ _ (by exact hs3.keep hk4) ?_
  clear hK K
  try simp only [Act.put, List.setIfInBounds_toArray, List.set_cons_zero, List.set_cons_succ]
  repeat (first
   | (refine mix_skip rfl (by rfl) ?_; try simp only [Act.put, List.setIfInBounds_toArray, List.set_cons_zero, List.set_cons_succ])
   | (refine mix_skipm rfl (by rfl) ?_; try simp only [Act.put, List.setIfInBounds_toArray, List.set_cons_zero, List.set_cons_succ])
   | (refine mix_take (v := ?_) rfl (by rfl) ?_ ?_; rotate_left; (· intro w' hSw; unfold c4S at hSw; go_simp; (try with_reducible rfl)); rotate_right; try simp only [Act.put, List.setIfInBounds_toArray, List.set_cons_zero, List.set_cons_succ]))
  refine mix_done ?_
  have hk4w := (Hk2w.out.nt hk3).nt hk4
  have hr4 := H.out.keep0 hk4w
  have hb34 := box_old (box_old Hb32.out hk3 (by simp)) hk4 (by simp)
  have hS7 := (show c7S B W.heap.size t.limit (.slice adT n cT) t.cyc t.due t.minFixed t.minPart t.start (.slice av m cv) (.slice ab n cb) s.p.cr s.p.du (.slice ar n cr) fr te w4 from ⟨cell_of_cells hr4.blk 0, cell_of_cells hr4.blk 1, cell_of_cells hr4.blk 2, cell_of_cells hr4.blk 3, cell_of_cells hr4.blk 4, cell_of_cells hr4.blk 5, cell_of_cells hr4.blk 6, cell_of_cells hr4.blk 16, cell_of_cells hr4.blk 10, cell_of_cells hr4.blk 11, cell_of_cells hr4.blk 12, cell_of_cells hr4.blk 13, cell_of_cells hb34 0, cell_of_cells hb34 1⟩).keep (Keeps.drew _)
  have hclo := fun (W' : World) (hW : Keeps (fun _ => False) w4 W') => cloClose_any t (.slice adT n cT) ((m : Int) + 1) fr te s.p.bal V s.R s.p.cr s.p.du ab (some ⟨gV, 0, none⟩) ar cb n cr n fb W' Hz.out Hn.out (hr4.keep0 hW).trs (by omega) hsp (Reads.of_owns (hr4.keep0 hW).bal) H.out.nb (hrV.keep hW).reads HVl.out (Reads.of_owns (hr4.keep0 hW).rts) H.out.nr Hpr.out (List.all_eq_true.2 fun y hy => (moneyP_iff y).2 (HVb.out y hy)) Hrt.out
  rw [HD.out] at hclo
  have hq1 : IntKind.i64.wrap ((m : Int) + 1) = (m : Int) + 1 := IntWalk.i64_in _ ⟨by omega, by omega⟩
  clear hs3
  obtain ⟨Hk3, Hk4, Hk4w, Hr4, Hb34, HS7, Hclo, HrV, HgV⟩ := hid9 hk3 hk4 hk4w hr4 hb34 hS7 hclo hrV hgV; clear hgV hrV hclo hS7 hb34 hr4 hk4w hk4 hk3
  go_wp2_with fail
  refine wp_region_mixw (c7S B W.heap.size t.limit (.slice adT n cT) t.cyc t.due t.minFixed t.minPart t.start (.slice av m cv) (.slice ab n cb) s.p.cr s.p.du (.slice ar n cr) fr te) (.take 0 (.take 1 (.take 2 (.take 3 (.take 4 (.take 5 (.take 6 (.take 7 (.take 8 (.take 9 (.take 10 (.take 11 (.take 12 (.take 13 (.take 14 (.take 15 (.take 16 (.take 17 (.take 18 (.take 19 (.take 20 (.fork3 21 (.take 22 (.take 23 (.take 24 (.take 25 (.fork 26 (.move 27 (.move 28 (.move 29 (.take 30 .done)))) 27 (.move 26 (.move 28 (.move 29 (.take 30 .done))))))))) 26 (.fork 21 (.take 22 (.take 23 (.take 24 (.take 25 (.move 27 (.move 28 (.move 29 (.take 30 .done)))))))) 27 (.move 21 (.take 22 (.take 23 (.take 24 (.take 25 (.move 28 (.move 29 (.take 30 .done))))))))) 27 (.fork 21 (.take 22 (.take 23 (.take 24 (.take 25 (.move 26 (.move 28 (.move 29 (.take 30 .done)))))))) 26 (.move 21 (.take 22 (.take 23 (.take 24 (.take 25 (.move 28 (.move 29 (.take 30 .done))))))))))))))))))))))))))))))) (by kernel_rfl) (by kernel_rfl) ?_ ?_
  ·exact HS7.out
  intro w7 hs7 hk7
  have Hk7 := Lib.hid hk7
  clear hk7
  repeat (first
   | (refine mix_skip rfl (by rfl) ?_; try simp only [Act.put, List.setIfInBounds_toArray, List.set_cons_zero, List.set_cons_succ])
   | (refine mix_skipm rfl (by rfl) ?_; try simp only [Act.put, List.setIfInBounds_toArray, List.set_cons_zero, List.set_cons_succ])
   | (refine mix_take (v := ?_) rfl (by rfl) ?_ ?_; rotate_left; (· intro w' hSw; unfold c7S at hSw; go_simp; (try with_reducible rfl)); rotate_right; try simp only [Act.put, List.setIfInBounds_toArray, List.set_cons_zero, List.set_cons_succ]))
  refine mix_fork3 ?_ ?_ ?_ hs7
  ·skip
   refine mix_move rfl (fun K hK => ?_)
   go_simp
   go_at_call 62
   ((with_reducible refine (Hclo.out _ (Hk7.out.nt (Keeps.refl (fun _ => False) w7))).mono ?_); rintro e w5 hpost)
   obtain ⟨al, cl2, ab2, cb2, rfl, hln, hbn2, hk5, hol, hob⟩ := ClosePost.uni hpost Hcv.out
   clear hpost
   dsimp only
   refine hK.out _ _ (by exact hs7.keep (Keeps.nt (Keeps.refl (fun _ => False) w7) hk5)) ?_
   clear hK K
   try simp only [Act.put, List.setIfInBounds_toArray, List.set_cons_zero, List.set_cons_succ]
   repeat (first
    | (refine mix_skip rfl (by rfl) ?_; try simp only [Act.put, List.setIfInBounds_toArray, List.set_cons_zero, List.set_cons_succ])
    | (refine mix_skipm rfl (by rfl) ?_; try simp only [Act.put, List.setIfInBounds_toArray, List.set_cons_zero, List.set_cons_succ])
    | (refine mix_take (v := ?_) rfl (by rfl) ?_ ?_; rotate_left; (· intro w' hSw; unfold c7S at hSw; go_simp; (try with_reducible rfl)); rotate_right; try simp only [Act.put, List.setIfInBounds_toArray, List.set_cons_zero, List.set_cons_succ]))
   refine mix_fork ?_ ?_ (hs7.keep (Keeps.nt (Keeps.refl (fun _ => False) w7) hk5))
   ·skip
    refine mix_move rfl (fun K hK => ?_)
    go_simp
    refine hK.out _ _ (by exact hs7.keep (Keeps.nt (Keeps.nt (Keeps.refl (fun _ => False) w7) hk5) (Keeps.alloc _ _))) ?_
    clear hK K
    try simp only [Act.put, List.setIfInBounds_toArray, List.set_cons_zero, List.set_cons_succ]
    refine mix_move rfl (fun K hK => ?_)
    go_simp
    refine hK.out _ _ (by exact hs7.keep (Keeps.nt (Keeps.nt (Keeps.nt (Keeps.refl (fun _ => False) w7) hk5) (Keeps.alloc (S := fun _ => False) (w5) (.cells #[.int .i64 0, .int .i64 0, .int .i64 0, .int .i64 0, .slice none 0 0, .int .i64 0, .int .i64 0, .int .i64 0, .bool false] 49))) (Keeps.alloc _ _))) ?_
    clear hK K
    try simp only [Act.put, List.setIfInBounds_toArray, List.set_cons_zero, List.set_cons_succ]
    obtain ⟨wE, hwE⟩ : ∃ x, x = ((w5).alloc (.cells #[.int .i64 0, .int .i64 0, .int .i64 0, .int .i64 0, .slice none 0 0, .int .i64 0, .int .i64 0, .int .i64 0, .bool false] 49)).alloc (.cells #[.slice none 0 0, .int .i64 0, .int .i64 0] 32) := ⟨_, rfl⟩
    have k7E : Keeps (fun _ => False) w7 wE := by rw [hwE]; exact (Keeps.nt (Keeps.nt (Keeps.nt (Keeps.refl (fun _ => False) w7) hk5) (Keeps.alloc (S := fun _ => False) (w5) (.cells #[.int .i64 0, .int .i64 0, .int .i64 0, .int .i64 0, .slice none 0 0, .int .i64 0, .int .i64 0, .int .i64 0, .bool false] 49))) (Keeps.alloc (S := fun _ => False) ((w5).alloc (.cells #[.int .i64 0, .int .i64 0, .int .i64 0, .int .i64 0, .slice none 0 0, .int .i64 0, .int .i64 0, .int .i64 0, .bool false] 49)) (.cells #[.slice none 0 0, .int .i64 0, .int .i64 0] 32)))
    have hb8 : wE.heap[w5.heap.size]? = some (.cells #[.int .i64 0, .int .i64 0, .int .i64 0, .int .i64 0, .slice none 0 0, .int .i64 0, .int .i64 0, .int .i64 0, .bool false] 49 (0, 0)) := by rw [hwE]; exact box_alloc (heap_alloc_new (w5) _) _
    have hb9 : wE.heap[w5.heap.size + 1]? = some (.cells #[.slice none 0 0, .int .i64 0, .int .i64 0] 32 (0, 0)) := by rw [hwE]; exact halloc_at2 _ _ (by simp)
    have k5E : Keeps (fun _ => False) w5 wE := by rw [hwE]; exact (Keeps.nt (Keeps.nt (Keeps.refl (fun _ => False) w5) (Keeps.alloc (S := fun _ => False) (w5) (.cells #[.int .i64 0, .int .i64 0, .int .i64 0, .int .i64 0, .slice none 0 0, .int .i64 0, .int .i64 0, .int .i64 0, .bool false] 49))) (Keeps.alloc (S := fun _ => False) ((w5).alloc (.cells #[.int .i64 0, .int .i64 0, .int .i64 0, .int .i64 0, .slice none 0 0, .int .i64 0, .int .i64 0, .int .i64 0, .bool false] 49)) (.cells #[.slice none 0 0, .int .i64 0, .int .i64 0] 32)))
    have hlnE := hln.of_keeps k5E
    have hbnE := hbn2.of_keeps k5E
    have hs5 := hk5.size
    try simp at hs5
    have holE : ∀ b, (Value.slice al x.lines.length cl2).ownBlock = some b → w7.heap.size ≤ b := fun b hb => by have h1 := hol b hb; have h2 := ((Keeps.refl (fun _ => False) w7)).size; omega
    have hobE : ∀ b, (Value.slice ab2 q.bal.length cb2).ownBlock = some b → w7.heap.size ≤ b := fun b hb => by have h1 := hob b hb; have h2 := ((Keeps.refl (fun _ => False) w7)).size; omega
    rw [← hwE]
    obtain ⟨b8, hb8e⟩ : ∃ x, x = w5.heap.size := ⟨_, rfl⟩
    obtain ⟨b9, hb9e⟩ : ∃ x, x = w5.heap.size + 1 := ⟨_, rfl⟩
    have hne : ¬ b8 = b9 := by rw [hb8e, hb9e]; omega
    have hn8 : w7.heap.size ≤ b8 := by rw [hb8e]; omega
    have hn9 : w7.heap.size ≤ b9 := by rw [hb9e]; omega
    rw [← hb9e] at hb9 ⊢
    rw [← hb8e] at hb8 ⊢
    clear hb8e hb9e hwE hln hbn2 hk5 hol hob k5E hs5
    have ya0 := cell_of_cells hb8 0
    have yb0 := free_of_cells hb8 0
    have ya1 := cell_of_cells hb8 1
    have yb1 := free_of_cells hb8 1
    have ya2 := cell_of_cells hb8 2
    have yb2 := free_of_cells hb8 2
    have ya3 := cell_of_cells hb8 3
    have yb3 := free_of_cells hb8 3
    have ya4 := cell_of_cells hb8 4
    have yb4 := free_of_cells hb8 4
    have ya5 := cell_of_cells hb8 5
    have yb5 := free_of_cells hb8 5
    have ya6 := cell_of_cells hb8 6
    have yb6 := free_of_cells hb8 6
    have ya7 := cell_of_cells hb8 7
    have yb7 := free_of_cells hb8 7
    have ya8 := cell_of_cells hb8 8
    have yb8 := free_of_cells hb8 8
    have yc0 := cell_of_cells hb9 0
    have yd0 := free_of_cells hb9 0
    have yc1 := cell_of_cells hb9 1
    have yd1 := free_of_cells hb9 1
    have yc2 := cell_of_cells hb9 2
    have yd2 := free_of_cells hb9 2
    have yl8 := lt_of_block hb8
    have yl9 := lt_of_block hb9
    have hne2 : ¬ b9 = b8 := fun e => hne e.symm
    have hl8 : ∀ b, (Value.slice al x.lines.length cl2).ownBlock = some b → ¬ b = b8 := fun b hb e => by subst e; exact ownsRow_ne hlnE hb8 (by decide) hb
    have hl9 : ∀ b, (Value.slice al x.lines.length cl2).ownBlock = some b → ¬ b = b9 := fun b hb e => by subst e; exact ownsRow_ne hlnE hb9 (by decide) hb
    have hq8 : ∀ b, (Value.slice ab2 q.bal.length cb2).ownBlock = some b → ¬ b = b8 := fun b hb e => by subst e; exact ownsRow_ne hbnE hb8 (by decide) hb
    have hq9 : ∀ b, (Value.slice ab2 q.bal.length cb2).ownBlock = some b → ¬ b = b9 := fun b hb e => by subst e; exact ownsRow_ne hbnE hb9 (by decide) hb
    obtain ⟨hb8', k8⟩ := store9 hb8 (.int .i64 x.cycle) (.int .i64 x.fr) (.int .i64 x.te) (.int .i64 x.due) (.slice al x.lines.length cl2) (.int .i64 x.total) (.int .i64 x.credit) (.int .i64 x.min) (.bool x.grace)
    obtain ⟨hb9', k9⟩ := store3 (box_old hb9 k8 hne2) (.slice ab2 q.bal.length cb2) (.int .i64 q.cr) (.int .i64 q.du)
    have hb8F := box_old hb8' k9 (fun e => hne e)
    have kE8 := k7E.trans (k8.mono fun i _ e => .inr (by have e' : i = b8 := e; omega))
    have kEF := kE8.trans (k9.mono fun i _ e => .inr (by have e' : i = b9 := e; omega))
    have hlnF := k9.row (k8.row hlnE hl8) hl9
    have hbnF := k9.row (k8.row hbnE hq8) hq9
    have hsA := hs7.keep kE8
    have hsB := hs7.keep kEF
    obtain ⟨Hb8, Hb9, Hb8', K8, K9, KE8, Hl8, Hl9, Hq8⟩ := hid9 hb8 hb9 hb8' k8 k9 kE8 hl8 hl9 hq8; clear hq8 hl9 hl8 kE8 k9 k8 hb8' hb9 hb8; obtain ⟨Hq9, HlnE, HbnE, HsA⟩ := hid4 hq9 hlnE hbnE hsA; clear hsA hbnE hlnE hq9
    refine mix_move rfl (fun K hK => ?_)
    go_simp
    refine hK.out _ _ (by exact HsA.out) ?_
    clear hK K
    try simp only [Act.put, List.setIfInBounds_toArray, List.set_cons_zero, List.set_cons_succ]
    repeat (first
     | (refine mix_skip rfl (by rfl) ?_; try simp only [Act.put, List.setIfInBounds_toArray, List.set_cons_zero, List.set_cons_succ])
     | (refine mix_skipm rfl (by rfl) ?_; try simp only [Act.put, List.setIfInBounds_toArray, List.set_cons_zero, List.set_cons_succ])
     | (refine mix_take (v := ?_) rfl (by rfl) ?_ ?_; rotate_left; (· intro w' hSw; unfold c7S at hSw; go_simp; (try with_reducible rfl)); rotate_right; try simp only [Act.put, List.setIfInBounds_toArray, List.set_cons_zero, List.set_cons_succ]))
    have HsB := Lib.hid hsB
    clear hsB
    refine mix_move rfl (fun K hK => ?_)
    go_simp
    refine hK.out _ _ (by exact HsB.out) ?_
    clear hK K
    try simp only [Act.put, List.setIfInBounds_toArray, List.set_cons_zero, List.set_cons_succ]
    repeat (first
     | (refine mix_skip rfl (by rfl) ?_; try simp only [Act.put, List.setIfInBounds_toArray, List.set_cons_zero, List.set_cons_succ])
     | (refine mix_skipm rfl (by rfl) ?_; try simp only [Act.put, List.setIfInBounds_toArray, List.set_cons_zero, List.set_cons_succ])
     | (refine mix_take (v := ?_) rfl (by rfl) ?_ ?_; rotate_left; (· intro w' hSw; unfold c7S at hSw; go_simp; (try with_reducible rfl)); rotate_right; try simp only [Act.put, List.setIfInBounds_toArray, List.set_cons_zero, List.set_cons_succ]))
    refine mix_done ?_
    clear ya0 yb0 ya1 yb1 ya2 yb2 ya3 yb3 ya4 yb4 ya5 yb5 ya6 yb6 ya7 yb7 ya8 yb8 yc0 yd0 yc1 yd1 yc2 yd2 yl8 yl9 hs7
    obtain ⟨wF, hwF⟩ : ∃ y, y = ((((((((((((wE.setCell ⟨b8, 0, none⟩ (.int .i64 x.cycle)).setCell ⟨b8, 1, none⟩ (.int .i64 x.fr)).setCell ⟨b8, 2, none⟩ (.int .i64 x.te)).setCell ⟨b8, 3, none⟩ (.int .i64 x.due)).setCell ⟨b8, 4, none⟩ (.slice al x.lines.length cl2)).setCell ⟨b8, 5, none⟩ (.int .i64 x.total)).setCell ⟨b8, 6, none⟩ (.int .i64 x.credit)).setCell ⟨b8, 7, none⟩ (.int .i64 x.min)).setCell ⟨b8, 8, none⟩ (.bool x.grace)).setCell ⟨b9, 0, none⟩ (.slice ab2 q.bal.length cb2)).setCell ⟨b9, 1, none⟩ (.int .i64 q.cr)).setCell ⟨b9, 2, none⟩ (.int .i64 q.du)) := ⟨_, rfl⟩
    rw [← hwF] at hb8F hb9' kEF hlnF hbnF ⊢
    clear hwF
    have Hn8 := Lib.hid hn8
    clear hn8
    have hr7 := Hr4.out.keep0 Hk7.out
    have hrF := hr7.keep0 kEF
    have b19 := cell_of_cells hrF.blk 19
    have hnil : ∀ w : World, (binOp .neq 73 .nilFunc .nilFunc).run Try.prog w = .ok (.bool false) w := fun _ => by kernel_rfl
    rcases D with _ | ⟨x', q'⟩
    ·have hC' := HC.out
     simp only at hC'
     subst hC'
     have hcv := Hcv.out
     simp only [cloVal, Prod.mk.injEq] at hcv
     obtain ⟨rfl, rfl, rfl⟩ := hcv
     obtain ⟨Hb8F, Hb9', KEF, HlnF, HbnF, Hr7, HrF, Hnil, HolE⟩ := hid9 hb8F hb9' kEF hlnF hbnF hr7 hrF hnil holE; clear holE hnil hrF hr7 hbnF hlnF kEF hb9' hb8F; have HobE := Lib.hid hobE; clear hobE
     go_wp2
     go_ret
     exact ⟨rfl, HrF.out⟩
    ·have hC' := HC.out
     simp only at hC'
     have hcv := Hcv.out
     simp only [cloVal, Prod.mk.injEq] at hcv
     obtain ⟨rfl, rfl, rfl⟩ := hcv
     obtain ⟨hql, _⟩ := closeR_ok Hz.out Hpr.out (by rw [HVl.out]; exact H.out.nb.symm) (List.all_eq_true.2 fun y hy => (moneyP_iff y).2 (HVb.out y hy)) HD.out
     have hqn : x'.lines.length = x'.lines.length := rfl
     rw [H.out.nb] at hql
     rw [hql] at hbnF hb9' hobE ⊢
     have u10 := (heap_setCell_same _ _ 10 _ _ (.slice ab2 n cb2) hrF.blk).trans rfl
     have u11 := (heap_setCell_same _ _ 11 _ _ (.int .i64 q'.cr) u10).trans rfl
     have u12 := (heap_setCell_same _ _ 12 _ _ (.int .i64 q'.du) u11).trans rfl
     have kB : Keeps (fun i => i = B) wF (((wF.setCell ⟨B, 10, none⟩ (.slice ab2 n cb2)).setCell ⟨B, 11, none⟩ (.int .i64 q'.cr)).setCell ⟨B, 12, none⟩ (.int .i64 q'.du)) := ((Keeps.setCell (S := fun i => i = B) _ _ _ rfl).trans (Keeps.setCell _ _ _ (.inl rfl))).trans (Keeps.setCell _ _ _ (.inl rfl))
     have hupd := hr7.upd kEF kB u12 hbnF hrF.rts hql Hr4.out.nr (.inr hobE) (.inl rfl)
     have hB8 : ¬ b8 = B := fun e => by
      have h1 := hb8F
      rw [e, hrF.blk] at h1
      injection h1 with h1
      injection h1 with _ h1 _
      exact absurd h1 (by decide)
     have hb8G := box_old hb8F kB hB8
     have hlnG := kB.row hlnF (fun i hi e => by have e' : i = B := e; subst e'; exact ownsRow_ne hlnF hrF.blk (by decide) hi)
     have p0 := cell_of_cells hb9' 0
     have p1 := cell_of_cells hb9' 1
     have p2 := cell_of_cells hb9' 2
     have pl := lt_of_block hb9'
     have b10 := cell_of_cells hrF.blk 10
     have b11 := cell_of_cells hrF.blk 11
     have b12 := cell_of_cells hrF.blk 12
     have f10 := free_of_cells hrF.blk 10
     have f11 := free_of_cells hrF.blk 11
     have f12 := free_of_cells hrF.blk 12
     have bl2 := lt_of_block hrF.blk
     obtain ⟨W12, hW12⟩ : ∃ y, y = (((wF.setCell ⟨B, 10, none⟩ (.slice ab2 n cb2)).setCell ⟨B, 11, none⟩ (.int .i64 q'.cr)).setCell ⟨B, 12, none⟩ (.int .i64 q'.du)) := ⟨_, rfl⟩
     rw [← hW12] at hupd hb8G hlnG
     have hS13 := r13S.keep (r13S.of hupd.blk rfl hb8G) (Keeps.drew (S := fun _ => False) _) (by simp) (by simp)
     have holX : Own w0 X (.slice al x'.lines.length cl2) := hr7.ownN holE
     obtain ⟨Hb8F, Hb9', KEF, HlnF, HbnF, Hr7, HrF, HolE, HobE⟩ := hid9 hb8F hb9' kEF hlnF hbnF hr7 hrF holE hobE; clear hobE holE hrF hr7 hbnF hlnF kEF hb9' hb8F; obtain ⟨Hql, Hqn, U10, U11, U12, KB, Hupd, HB8, Hb8G⟩ := hid9 hql hqn u10 u11 u12 kB hupd hB8 hb8G; clear hb8G hB8 hupd kB u12 u11 u10 hqn hql; obtain ⟨HlnG, HS13, HolX, HC'⟩ := hid4 hlnG hS13 holX hC'; clear hC' holX hS13 hlnG
     go_wp2_with fail
     rw [← hW12]
     clear hW12 p0 p1 p2 pl b10 b11 b12 f10 f11 f12 bl2 b19 hnil
     refine wp_region_mixy (r13S B b8 (.slice av m cv) x'.cycle x'.fr x'.te x'.due (.slice al x'.lines.length cl2) x'.total x'.credit x'.min x'.grace) 10 (.take 0 (.take 1 (.take 2 (.take 3 (.take 4 (.take 5 (.move 6 (.move 7 (.move 8 (.move 9 (.move 10 .done))))))))))) (by kernel_rfl) (by kernel_rfl) ?_ ?_
     ·exact HS13.out
     intro w13 hs13 hk13
     repeat (first
      | (refine mix_skip rfl (by rfl) ?_; try simp only [Act.put, List.setIfInBounds_toArray, List.set_cons_zero, List.set_cons_succ])
      | (refine mix_skipm rfl (by rfl) ?_; try simp only [Act.put, List.setIfInBounds_toArray, List.set_cons_zero, List.set_cons_succ])
      | (refine mix_take (v := ?_) rfl (by rfl) ?_ ?_; rotate_left; (· intro w' hSw; unfold r13S at hSw; go_simp; (try with_reducible rfl)); rotate_right; try simp only [Act.put, List.setIfInBounds_toArray, List.set_cons_zero, List.set_cons_succ]))
     refine mix_move rfl (fun K hK => ?_)
     go_simp
     refine hK.out _ _ (by exact hs13.keep (S := fun _ => False) (Keeps.alloc _ _) (by simp) (by simp)) ?_
     clear hK K
     try simp only [Act.put, List.setIfInBounds_toArray, List.set_cons_zero, List.set_cons_succ]
     repeat (first
      | (refine mix_skip rfl (by rfl) ?_; try simp only [Act.put, List.setIfInBounds_toArray, List.set_cons_zero, List.set_cons_succ])
      | (refine mix_skipm rfl (by rfl) ?_; try simp only [Act.put, List.setIfInBounds_toArray, List.set_cons_zero, List.set_cons_succ])
      | (refine mix_take (v := ?_) rfl (by rfl) ?_ ?_; rotate_left; (· intro w' hSw; unfold r13S at hSw; go_simp; (try with_reducible rfl)); rotate_right; try simp only [Act.put, List.setIfInBounds_toArray, List.set_cons_zero, List.set_cons_succ]))
     have hk13a := hk13.nt (Keeps.alloc w13 (.cells (SV.cells ⟨x', al, cl2⟩).toArray 49))
     have hrow13 := (Hupd.out.keep0 hk13a).out
     rw [Hmm.out] at hrow13
     refine mix_move rfl (fun K hK => ?_)
     refine step_append_row rfl (.tmp 107) (.tmp 109) 33 rfl 0 49 i0 _ 9 88 Try.underlying33 Hi.out Hi0.out Hi1.out Hi2.out rfl (by decide) (.slice av m cv) m _ rfl hrow13 _ 1 _ rfl (Reads.litAt _ _ _ 9 1 _ (by first | rfl | simp) rfl) (by simp [Value.oneCell']) (by unfold maxLen; omega) (by omega) (Nat.zero_le _) ?_
     intro v14 w14 hown14 hk14 hf14
     obtain ⟨a14, c14, rfl, _, _⟩ := ownsRow_shape hown14
     have hadd := Hupd.out.addOut (x := ⟨x', al, cl2⟩) hk13a hk14 (by rw [Hmm.out, List.flatMap_append]; exact hown14) (HlnG.out.of_keeps hk13a) HolX.out hf14
     have h14b := box_old (Hupd.out.keep0 hk13a).blk hk14 (fun e => ownsRow_ne hrow13 (Hupd.out.keep0 hk13a).blk (by decide) e)
     have hb8n : W.heap.size ≤ b8 := by have h1 := Hk4w.out.size; have h2 := Hk7.out.size; have h3 := Hn8.out; omega
     have h14s : ¬ (Value.slice av m cv).ownBlock = some b8 := fun e => by have := own_lt H.out.out e; omega
     have o16 := cell_of_cells h14b 16
     have of16 := free_of_cells h14b 16
     have ol16 := lt_of_block h14b
     refine hK.out _ _ (by exact (hs13.keep (S := fun _ => False) (Keeps.alloc _ _) (by simp) (by simp)).keep hk14 (fun e => ownsRow_ne hrow13 (Hupd.out.keep0 hk13a).blk (by decide) e) h14s) ?_
     clear hK K
     try simp only [Act.put, List.setIfInBounds_toArray, List.set_cons_zero, List.set_cons_succ]
     obtain ⟨Hk13a, Hrow13, Hown14, Hk14, Hadd, H14b, Hb8n, H14s, Hk13⟩ := hid9 hk13a hrow13 hown14 hk14 hadd h14b hb8n h14s hk13; clear hk13 h14s hb8n h14b hadd hk14 hown14 hrow13 hk13a
     clear hs13 hf14
     repeat (first
      | (refine mix_takem (v := ?_) rfl (by rfl) ?_ ?_; rotate_left; (· intro w' hSw; unfold r13S at hSw; go_simp; (try with_reducible rfl)); rotate_right; try simp only [Act.put, List.setIfInBounds_toArray, List.set_cons_zero, List.set_cons_succ]))
     refine mix_last rfl (fun K hK => ?_)
     go_simp
     refine hK.out _ _ ?_
     clear hK K
     try simp only [Act.put, List.setIfInBounds_toArray, List.set_cons_zero, List.set_cons_succ]
     refine mix_done ?_
     clear o16 of16 ol16
     have hfr := runFresh_any Hadd.out (by omega)
     have Hfr := Lib.hid hfr
     clear hfr
     go_wp2_with fail
     refine Hfr.out.mono ?_
     rintro e w16 ⟨rfl, a16, b16', hr16⟩
     have hCC := HC'.out
     subst hCC
     have Hr16 := Lib.hid hr16; clear hr16
     go_wp2
     go_ret
     exact ⟨rfl, _, _, _, _, _, Hr16.out⟩
   ·skip
    refine mix_move rfl (fun K hK => ?_)
    go_simp
    refine hK.out _ _ (by exact hs7.keep (Keeps.nt (Keeps.nt (Keeps.refl (fun _ => False) w7) hk5) (Keeps.alloc _ _))) ?_
    clear hK K
    try simp only [Act.put, List.setIfInBounds_toArray, List.set_cons_zero, List.set_cons_succ]
    refine mix_move rfl (fun K hK => ?_)
    go_simp
    refine hK.out _ _ (by exact hs7.keep (Keeps.nt (Keeps.nt (Keeps.nt (Keeps.refl (fun _ => False) w7) hk5) (Keeps.alloc (S := fun _ => False) (w5) (.cells #[.slice none 0 0, .int .i64 0, .int .i64 0] 32))) (Keeps.alloc _ _))) ?_
    clear hK K
    try simp only [Act.put, List.setIfInBounds_toArray, List.set_cons_zero, List.set_cons_succ]
    obtain ⟨wE, hwE⟩ : ∃ x, x = ((w5).alloc (.cells #[.slice none 0 0, .int .i64 0, .int .i64 0] 32)).alloc (.cells #[.int .i64 0, .int .i64 0, .int .i64 0, .int .i64 0, .slice none 0 0, .int .i64 0, .int .i64 0, .int .i64 0, .bool false] 49) := ⟨_, rfl⟩
    have k7E : Keeps (fun _ => False) w7 wE := by rw [hwE]; exact (Keeps.nt (Keeps.nt (Keeps.nt (Keeps.refl (fun _ => False) w7) hk5) (Keeps.alloc (S := fun _ => False) (w5) (.cells #[.slice none 0 0, .int .i64 0, .int .i64 0] 32))) (Keeps.alloc (S := fun _ => False) ((w5).alloc (.cells #[.slice none 0 0, .int .i64 0, .int .i64 0] 32)) (.cells #[.int .i64 0, .int .i64 0, .int .i64 0, .int .i64 0, .slice none 0 0, .int .i64 0, .int .i64 0, .int .i64 0, .bool false] 49)))
    have hb8 : wE.heap[w5.heap.size + 1]? = some (.cells #[.int .i64 0, .int .i64 0, .int .i64 0, .int .i64 0, .slice none 0 0, .int .i64 0, .int .i64 0, .int .i64 0, .bool false] 49 (0, 0)) := by rw [hwE]; exact halloc_at2 _ _ (by simp)
    have hb9 : wE.heap[w5.heap.size]? = some (.cells #[.slice none 0 0, .int .i64 0, .int .i64 0] 32 (0, 0)) := by rw [hwE]; exact box_alloc (heap_alloc_new (w5) _) _
    have k5E : Keeps (fun _ => False) w5 wE := by rw [hwE]; exact (Keeps.nt (Keeps.nt (Keeps.refl (fun _ => False) w5) (Keeps.alloc (S := fun _ => False) (w5) (.cells #[.slice none 0 0, .int .i64 0, .int .i64 0] 32))) (Keeps.alloc (S := fun _ => False) ((w5).alloc (.cells #[.slice none 0 0, .int .i64 0, .int .i64 0] 32)) (.cells #[.int .i64 0, .int .i64 0, .int .i64 0, .int .i64 0, .slice none 0 0, .int .i64 0, .int .i64 0, .int .i64 0, .bool false] 49)))
    have hlnE := hln.of_keeps k5E
    have hbnE := hbn2.of_keeps k5E
    have hs5 := hk5.size
    try simp at hs5
    have holE : ∀ b, (Value.slice al x.lines.length cl2).ownBlock = some b → w7.heap.size ≤ b := fun b hb => by have h1 := hol b hb; have h2 := ((Keeps.refl (fun _ => False) w7)).size; omega
    have hobE : ∀ b, (Value.slice ab2 q.bal.length cb2).ownBlock = some b → w7.heap.size ≤ b := fun b hb => by have h1 := hob b hb; have h2 := ((Keeps.refl (fun _ => False) w7)).size; omega
    rw [← hwE]
    obtain ⟨b8, hb8e⟩ : ∃ x, x = w5.heap.size + 1 := ⟨_, rfl⟩
    obtain ⟨b9, hb9e⟩ : ∃ x, x = w5.heap.size := ⟨_, rfl⟩
    have hne : ¬ b8 = b9 := by rw [hb8e, hb9e]; omega
    have hn8 : w7.heap.size ≤ b8 := by rw [hb8e]; omega
    have hn9 : w7.heap.size ≤ b9 := by rw [hb9e]; omega
    rw [← hb8e] at hb8 ⊢
    rw [← hb9e] at hb9 ⊢
    clear hb8e hb9e hwE hln hbn2 hk5 hol hob k5E hs5
    have ya0 := cell_of_cells hb8 0
    have yb0 := free_of_cells hb8 0
    have ya1 := cell_of_cells hb8 1
    have yb1 := free_of_cells hb8 1
    have ya2 := cell_of_cells hb8 2
    have yb2 := free_of_cells hb8 2
    have ya3 := cell_of_cells hb8 3
    have yb3 := free_of_cells hb8 3
    have ya4 := cell_of_cells hb8 4
    have yb4 := free_of_cells hb8 4
    have ya5 := cell_of_cells hb8 5
    have yb5 := free_of_cells hb8 5
    have ya6 := cell_of_cells hb8 6
    have yb6 := free_of_cells hb8 6
    have ya7 := cell_of_cells hb8 7
    have yb7 := free_of_cells hb8 7
    have ya8 := cell_of_cells hb8 8
    have yb8 := free_of_cells hb8 8
    have yc0 := cell_of_cells hb9 0
    have yd0 := free_of_cells hb9 0
    have yc1 := cell_of_cells hb9 1
    have yd1 := free_of_cells hb9 1
    have yc2 := cell_of_cells hb9 2
    have yd2 := free_of_cells hb9 2
    have yl8 := lt_of_block hb8
    have yl9 := lt_of_block hb9
    have hne2 : ¬ b9 = b8 := fun e => hne e.symm
    have hl8 : ∀ b, (Value.slice al x.lines.length cl2).ownBlock = some b → ¬ b = b8 := fun b hb e => by subst e; exact ownsRow_ne hlnE hb8 (by decide) hb
    have hl9 : ∀ b, (Value.slice al x.lines.length cl2).ownBlock = some b → ¬ b = b9 := fun b hb e => by subst e; exact ownsRow_ne hlnE hb9 (by decide) hb
    have hq8 : ∀ b, (Value.slice ab2 q.bal.length cb2).ownBlock = some b → ¬ b = b8 := fun b hb e => by subst e; exact ownsRow_ne hbnE hb8 (by decide) hb
    have hq9 : ∀ b, (Value.slice ab2 q.bal.length cb2).ownBlock = some b → ¬ b = b9 := fun b hb e => by subst e; exact ownsRow_ne hbnE hb9 (by decide) hb
    obtain ⟨hb8', k8⟩ := store9 hb8 (.int .i64 x.cycle) (.int .i64 x.fr) (.int .i64 x.te) (.int .i64 x.due) (.slice al x.lines.length cl2) (.int .i64 x.total) (.int .i64 x.credit) (.int .i64 x.min) (.bool x.grace)
    obtain ⟨hb9', k9⟩ := store3 (box_old hb9 k8 hne2) (.slice ab2 q.bal.length cb2) (.int .i64 q.cr) (.int .i64 q.du)
    have hb8F := box_old hb8' k9 (fun e => hne e)
    have kE8 := k7E.trans (k8.mono fun i _ e => .inr (by have e' : i = b8 := e; omega))
    have kEF := kE8.trans (k9.mono fun i _ e => .inr (by have e' : i = b9 := e; omega))
    have hlnF := k9.row (k8.row hlnE hl8) hl9
    have hbnF := k9.row (k8.row hbnE hq8) hq9
    have hsA := hs7.keep kE8
    have hsB := hs7.keep kEF
    obtain ⟨Hb8, Hb9, Hb8', K8, K9, KE8, Hl8, Hl9, Hq8⟩ := hid9 hb8 hb9 hb8' k8 k9 kE8 hl8 hl9 hq8; clear hq8 hl9 hl8 kE8 k9 k8 hb8' hb9 hb8; obtain ⟨Hq9, HlnE, HbnE, HsA⟩ := hid4 hq9 hlnE hbnE hsA; clear hsA hbnE hlnE hq9
    refine mix_move rfl (fun K hK => ?_)
    go_simp
    refine hK.out _ _ (by exact HsA.out) ?_
    clear hK K
    try simp only [Act.put, List.setIfInBounds_toArray, List.set_cons_zero, List.set_cons_succ]
    repeat (first
     | (refine mix_skip rfl (by rfl) ?_; try simp only [Act.put, List.setIfInBounds_toArray, List.set_cons_zero, List.set_cons_succ])
     | (refine mix_skipm rfl (by rfl) ?_; try simp only [Act.put, List.setIfInBounds_toArray, List.set_cons_zero, List.set_cons_succ])
     | (refine mix_take (v := ?_) rfl (by rfl) ?_ ?_; rotate_left; (· intro w' hSw; unfold c7S at hSw; go_simp; (try with_reducible rfl)); rotate_right; try simp only [Act.put, List.setIfInBounds_toArray, List.set_cons_zero, List.set_cons_succ]))
    have HsB := Lib.hid hsB
    clear hsB
    refine mix_move rfl (fun K hK => ?_)
    go_simp
    refine hK.out _ _ (by exact HsB.out) ?_
    clear hK K
    try simp only [Act.put, List.setIfInBounds_toArray, List.set_cons_zero, List.set_cons_succ]
    repeat (first
     | (refine mix_skip rfl (by rfl) ?_; try simp only [Act.put, List.setIfInBounds_toArray, List.set_cons_zero, List.set_cons_succ])
     | (refine mix_skipm rfl (by rfl) ?_; try simp only [Act.put, List.setIfInBounds_toArray, List.set_cons_zero, List.set_cons_succ])
     | (refine mix_take (v := ?_) rfl (by rfl) ?_ ?_; rotate_left; (· intro w' hSw; unfold c7S at hSw; go_simp; (try with_reducible rfl)); rotate_right; try simp only [Act.put, List.setIfInBounds_toArray, List.set_cons_zero, List.set_cons_succ]))
    refine mix_done ?_
    clear ya0 yb0 ya1 yb1 ya2 yb2 ya3 yb3 ya4 yb4 ya5 yb5 ya6 yb6 ya7 yb7 ya8 yb8 yc0 yd0 yc1 yd1 yc2 yd2 yl8 yl9 hs7
    obtain ⟨wF, hwF⟩ : ∃ y, y = ((((((((((((wE.setCell ⟨b8, 0, none⟩ (.int .i64 x.cycle)).setCell ⟨b8, 1, none⟩ (.int .i64 x.fr)).setCell ⟨b8, 2, none⟩ (.int .i64 x.te)).setCell ⟨b8, 3, none⟩ (.int .i64 x.due)).setCell ⟨b8, 4, none⟩ (.slice al x.lines.length cl2)).setCell ⟨b8, 5, none⟩ (.int .i64 x.total)).setCell ⟨b8, 6, none⟩ (.int .i64 x.credit)).setCell ⟨b8, 7, none⟩ (.int .i64 x.min)).setCell ⟨b8, 8, none⟩ (.bool x.grace)).setCell ⟨b9, 0, none⟩ (.slice ab2 q.bal.length cb2)).setCell ⟨b9, 1, none⟩ (.int .i64 q.cr)).setCell ⟨b9, 2, none⟩ (.int .i64 q.du)) := ⟨_, rfl⟩
    rw [← hwF] at hb8F hb9' kEF hlnF hbnF ⊢
    clear hwF
    have Hn8 := Lib.hid hn8
    clear hn8
    have hr7 := Hr4.out.keep0 Hk7.out
    have hrF := hr7.keep0 kEF
    have b19 := cell_of_cells hrF.blk 19
    have hnil : ∀ w : World, (binOp .neq 73 .nilFunc .nilFunc).run Try.prog w = .ok (.bool false) w := fun _ => by kernel_rfl
    rcases D with _ | ⟨x', q'⟩
    ·have hC' := HC.out
     simp only at hC'
     subst hC'
     have hcv := Hcv.out
     simp only [cloVal, Prod.mk.injEq] at hcv
     obtain ⟨rfl, rfl, rfl⟩ := hcv
     obtain ⟨Hb8F, Hb9', KEF, HlnF, HbnF, Hr7, HrF, Hnil, HolE⟩ := hid9 hb8F hb9' kEF hlnF hbnF hr7 hrF hnil holE; clear holE hnil hrF hr7 hbnF hlnF kEF hb9' hb8F; have HobE := Lib.hid hobE; clear hobE
     go_wp2
     go_ret
     exact ⟨rfl, HrF.out⟩
    ·have hC' := HC.out
     simp only at hC'
     have hcv := Hcv.out
     simp only [cloVal, Prod.mk.injEq] at hcv
     obtain ⟨rfl, rfl, rfl⟩ := hcv
     obtain ⟨hql, _⟩ := closeR_ok Hz.out Hpr.out (by rw [HVl.out]; exact H.out.nb.symm) (List.all_eq_true.2 fun y hy => (moneyP_iff y).2 (HVb.out y hy)) HD.out
     have hqn : x'.lines.length = x'.lines.length := rfl
     rw [H.out.nb] at hql
     rw [hql] at hbnF hb9' hobE ⊢
     have u10 := (heap_setCell_same _ _ 10 _ _ (.slice ab2 n cb2) hrF.blk).trans rfl
     have u11 := (heap_setCell_same _ _ 11 _ _ (.int .i64 q'.cr) u10).trans rfl
     have u12 := (heap_setCell_same _ _ 12 _ _ (.int .i64 q'.du) u11).trans rfl
     have kB : Keeps (fun i => i = B) wF (((wF.setCell ⟨B, 10, none⟩ (.slice ab2 n cb2)).setCell ⟨B, 11, none⟩ (.int .i64 q'.cr)).setCell ⟨B, 12, none⟩ (.int .i64 q'.du)) := ((Keeps.setCell (S := fun i => i = B) _ _ _ rfl).trans (Keeps.setCell _ _ _ (.inl rfl))).trans (Keeps.setCell _ _ _ (.inl rfl))
     have hupd := hr7.upd kEF kB u12 hbnF hrF.rts hql Hr4.out.nr (.inr hobE) (.inl rfl)
     have hB8 : ¬ b8 = B := fun e => by
      have h1 := hb8F
      rw [e, hrF.blk] at h1
      injection h1 with h1
      injection h1 with _ h1 _
      exact absurd h1 (by decide)
     have hb8G := box_old hb8F kB hB8
     have hlnG := kB.row hlnF (fun i hi e => by have e' : i = B := e; subst e'; exact ownsRow_ne hlnF hrF.blk (by decide) hi)
     have p0 := cell_of_cells hb9' 0
     have p1 := cell_of_cells hb9' 1
     have p2 := cell_of_cells hb9' 2
     have pl := lt_of_block hb9'
     have b10 := cell_of_cells hrF.blk 10
     have b11 := cell_of_cells hrF.blk 11
     have b12 := cell_of_cells hrF.blk 12
     have f10 := free_of_cells hrF.blk 10
     have f11 := free_of_cells hrF.blk 11
     have f12 := free_of_cells hrF.blk 12
     have bl2 := lt_of_block hrF.blk
     obtain ⟨W12, hW12⟩ : ∃ y, y = (((wF.setCell ⟨B, 10, none⟩ (.slice ab2 n cb2)).setCell ⟨B, 11, none⟩ (.int .i64 q'.cr)).setCell ⟨B, 12, none⟩ (.int .i64 q'.du)) := ⟨_, rfl⟩
     rw [← hW12] at hupd hb8G hlnG
     have hS13 := r13S.keep (r13S.of hupd.blk rfl hb8G) (Keeps.drew (S := fun _ => False) _) (by simp) (by simp)
     have holX : Own w0 X (.slice al x'.lines.length cl2) := hr7.ownN holE
     obtain ⟨Hb8F, Hb9', KEF, HlnF, HbnF, Hr7, HrF, HolE, HobE⟩ := hid9 hb8F hb9' kEF hlnF hbnF hr7 hrF holE hobE; clear hobE holE hrF hr7 hbnF hlnF kEF hb9' hb8F; obtain ⟨Hql, Hqn, U10, U11, U12, KB, Hupd, HB8, Hb8G⟩ := hid9 hql hqn u10 u11 u12 kB hupd hB8 hb8G; clear hb8G hB8 hupd kB u12 u11 u10 hqn hql; obtain ⟨HlnG, HS13, HolX, HC'⟩ := hid4 hlnG hS13 holX hC'; clear hC' holX hS13 hlnG
     go_wp2_with fail
     rw [← hW12]
     clear hW12 p0 p1 p2 pl b10 b11 b12 f10 f11 f12 bl2 b19 hnil
     refine wp_region_mixy (r13S B b8 (.slice av m cv) x'.cycle x'.fr x'.te x'.due (.slice al x'.lines.length cl2) x'.total x'.credit x'.min x'.grace) 10 (.take 0 (.take 1 (.take 2 (.take 3 (.take 4 (.take 5 (.move 6 (.move 7 (.move 8 (.move 9 (.move 10 .done))))))))))) (by kernel_rfl) (by kernel_rfl) ?_ ?_
     ·exact HS13.out
     intro w13 hs13 hk13
     repeat (first
      | (refine mix_skip rfl (by rfl) ?_; try simp only [Act.put, List.setIfInBounds_toArray, List.set_cons_zero, List.set_cons_succ])
      | (refine mix_skipm rfl (by rfl) ?_; try simp only [Act.put, List.setIfInBounds_toArray, List.set_cons_zero, List.set_cons_succ])
      | (refine mix_take (v := ?_) rfl (by rfl) ?_ ?_; rotate_left; (· intro w' hSw; unfold r13S at hSw; go_simp; (try with_reducible rfl)); rotate_right; try simp only [Act.put, List.setIfInBounds_toArray, List.set_cons_zero, List.set_cons_succ]))
     refine mix_move rfl (fun K hK => ?_)
     go_simp
     refine hK.out _ _ (by exact hs13.keep (S := fun _ => False) (Keeps.alloc _ _) (by simp) (by simp)) ?_
     clear hK K
     try simp only [Act.put, List.setIfInBounds_toArray, List.set_cons_zero, List.set_cons_succ]
     repeat (first
      | (refine mix_skip rfl (by rfl) ?_; try simp only [Act.put, List.setIfInBounds_toArray, List.set_cons_zero, List.set_cons_succ])
      | (refine mix_skipm rfl (by rfl) ?_; try simp only [Act.put, List.setIfInBounds_toArray, List.set_cons_zero, List.set_cons_succ])
      | (refine mix_take (v := ?_) rfl (by rfl) ?_ ?_; rotate_left; (· intro w' hSw; unfold r13S at hSw; go_simp; (try with_reducible rfl)); rotate_right; try simp only [Act.put, List.setIfInBounds_toArray, List.set_cons_zero, List.set_cons_succ]))
     have hk13a := hk13.nt (Keeps.alloc w13 (.cells (SV.cells ⟨x', al, cl2⟩).toArray 49))
     have hrow13 := (Hupd.out.keep0 hk13a).out
     rw [Hmm.out] at hrow13
     refine mix_move rfl (fun K hK => ?_)
     refine step_append_row rfl (.tmp 107) (.tmp 109) 33 rfl 0 49 i0 _ 9 88 Try.underlying33 Hi.out Hi0.out Hi1.out Hi2.out rfl (by decide) (.slice av m cv) m _ rfl hrow13 _ 1 _ rfl (Reads.litAt _ _ _ 9 1 _ (by first | rfl | simp) rfl) (by simp [Value.oneCell']) (by unfold maxLen; omega) (by omega) (Nat.zero_le _) ?_
     intro v14 w14 hown14 hk14 hf14
     obtain ⟨a14, c14, rfl, _, _⟩ := ownsRow_shape hown14
     have hadd := Hupd.out.addOut (x := ⟨x', al, cl2⟩) hk13a hk14 (by rw [Hmm.out, List.flatMap_append]; exact hown14) (HlnG.out.of_keeps hk13a) HolX.out hf14
     have h14b := box_old (Hupd.out.keep0 hk13a).blk hk14 (fun e => ownsRow_ne hrow13 (Hupd.out.keep0 hk13a).blk (by decide) e)
     have hb8n : W.heap.size ≤ b8 := by have h1 := Hk4w.out.size; have h2 := Hk7.out.size; have h3 := Hn8.out; omega
     have h14s : ¬ (Value.slice av m cv).ownBlock = some b8 := fun e => by have := own_lt H.out.out e; omega
     have o16 := cell_of_cells h14b 16
     have of16 := free_of_cells h14b 16
     have ol16 := lt_of_block h14b
     refine hK.out _ _ (by exact (hs13.keep (S := fun _ => False) (Keeps.alloc _ _) (by simp) (by simp)).keep hk14 (fun e => ownsRow_ne hrow13 (Hupd.out.keep0 hk13a).blk (by decide) e) h14s) ?_
     clear hK K
     try simp only [Act.put, List.setIfInBounds_toArray, List.set_cons_zero, List.set_cons_succ]
     obtain ⟨Hk13a, Hrow13, Hown14, Hk14, Hadd, H14b, Hb8n, H14s, Hk13⟩ := hid9 hk13a hrow13 hown14 hk14 hadd h14b hb8n h14s hk13; clear hk13 h14s hb8n h14b hadd hk14 hown14 hrow13 hk13a
     clear hs13 hf14
     repeat (first
      | (refine mix_takem (v := ?_) rfl (by rfl) ?_ ?_; rotate_left; (· intro w' hSw; unfold r13S at hSw; go_simp; (try with_reducible rfl)); rotate_right; try simp only [Act.put, List.setIfInBounds_toArray, List.set_cons_zero, List.set_cons_succ]))
     refine mix_last rfl (fun K hK => ?_)
     go_simp
     refine hK.out _ _ ?_
     clear hK K
     try simp only [Act.put, List.setIfInBounds_toArray, List.set_cons_zero, List.set_cons_succ]
     refine mix_done ?_
     clear o16 of16 ol16
     have hfr := runFresh_any Hadd.out (by omega)
     have Hfr := Lib.hid hfr
     clear hfr
     go_wp2_with fail
     refine Hfr.out.mono ?_
     rintro e w16 ⟨rfl, a16, b16', hr16⟩
     have hCC := HC'.out
     subst hCC
     have Hr16 := Lib.hid hr16; clear hr16
     go_wp2
     go_ret
     exact ⟨rfl, _, _, _, _, _, Hr16.out⟩
  ·skip
   refine mix_move rfl (fun K hK => ?_)
   go_simp
   refine hK.out _ _ (by exact hs7.keep (Keeps.nt (Keeps.refl (fun _ => False) w7) (Keeps.alloc _ _))) ?_
   clear hK K
   try simp only [Act.put, List.setIfInBounds_toArray, List.set_cons_zero, List.set_cons_succ]
   refine mix_fork ?_ ?_ (hs7.keep (Keeps.nt (Keeps.refl (fun _ => False) w7) (Keeps.alloc _ _)))
   ·skip
    refine mix_move rfl (fun K hK => ?_)
    go_simp
    go_at_call 62
    ((with_reducible refine (Hclo.out _ (Hk7.out.nt (Keeps.nt (Keeps.refl (fun _ => False) w7) (Keeps.alloc (S := fun _ => False) (w7) (.cells #[.int .i64 0, .int .i64 0, .int .i64 0, .int .i64 0, .slice none 0 0, .int .i64 0, .int .i64 0, .int .i64 0, .bool false] 49))))).mono ?_); rintro e w5 hpost)
    obtain ⟨al, cl2, ab2, cb2, rfl, hln, hbn2, hk5, hol, hob⟩ := ClosePost.uni hpost Hcv.out
    clear hpost
    dsimp only
    refine hK.out _ _ (by exact hs7.keep (Keeps.nt (Keeps.nt (Keeps.refl (fun _ => False) w7) (Keeps.alloc (S := fun _ => False) (w7) (.cells #[.int .i64 0, .int .i64 0, .int .i64 0, .int .i64 0, .slice none 0 0, .int .i64 0, .int .i64 0, .int .i64 0, .bool false] 49))) hk5)) ?_
    clear hK K
    try simp only [Act.put, List.setIfInBounds_toArray, List.set_cons_zero, List.set_cons_succ]
    repeat (first
     | (refine mix_skip rfl (by rfl) ?_; try simp only [Act.put, List.setIfInBounds_toArray, List.set_cons_zero, List.set_cons_succ])
     | (refine mix_skipm rfl (by rfl) ?_; try simp only [Act.put, List.setIfInBounds_toArray, List.set_cons_zero, List.set_cons_succ])
     | (refine mix_take (v := ?_) rfl (by rfl) ?_ ?_; rotate_left; (· intro w' hSw; unfold c7S at hSw; go_simp; (try with_reducible rfl)); rotate_right; try simp only [Act.put, List.setIfInBounds_toArray, List.set_cons_zero, List.set_cons_succ]))
    refine mix_move rfl (fun K hK => ?_)
    go_simp
    refine hK.out _ _ (by exact hs7.keep (Keeps.nt (Keeps.nt (Keeps.nt (Keeps.refl (fun _ => False) w7) (Keeps.alloc (S := fun _ => False) (w7) (.cells #[.int .i64 0, .int .i64 0, .int .i64 0, .int .i64 0, .slice none 0 0, .int .i64 0, .int .i64 0, .int .i64 0, .bool false] 49))) hk5) (Keeps.alloc _ _))) ?_
    clear hK K
    try simp only [Act.put, List.setIfInBounds_toArray, List.set_cons_zero, List.set_cons_succ]
    obtain ⟨wE, hwE⟩ : ∃ x, x = (w5).alloc (.cells #[.slice none 0 0, .int .i64 0, .int .i64 0] 32) := ⟨_, rfl⟩
    have k7E : Keeps (fun _ => False) w7 wE := by rw [hwE]; exact (Keeps.nt (Keeps.nt (Keeps.nt (Keeps.refl (fun _ => False) w7) (Keeps.alloc (S := fun _ => False) (w7) (.cells #[.int .i64 0, .int .i64 0, .int .i64 0, .int .i64 0, .slice none 0 0, .int .i64 0, .int .i64 0, .int .i64 0, .bool false] 49))) hk5) (Keeps.alloc (S := fun _ => False) (w5) (.cells #[.slice none 0 0, .int .i64 0, .int .i64 0] 32)))
    have hb8 : wE.heap[w7.heap.size]? = some (.cells #[.int .i64 0, .int .i64 0, .int .i64 0, .int .i64 0, .slice none 0 0, .int .i64 0, .int .i64 0, .int .i64 0, .bool false] 49 (0, 0)) := by rw [hwE]; exact box_alloc (box_old (heap_alloc_new (w7) _) hk5 (by simp)) _
    have hb9 : wE.heap[w5.heap.size]? = some (.cells #[.slice none 0 0, .int .i64 0, .int .i64 0] 32 (0, 0)) := by rw [hwE]; exact heap_alloc_new (w5) _
    have k5E : Keeps (fun _ => False) w5 wE := by rw [hwE]; exact (Keeps.nt (Keeps.refl (fun _ => False) w5) (Keeps.alloc (S := fun _ => False) (w5) (.cells #[.slice none 0 0, .int .i64 0, .int .i64 0] 32)))
    have hlnE := hln.of_keeps k5E
    have hbnE := hbn2.of_keeps k5E
    have hs5 := hk5.size
    try simp at hs5
    have holE : ∀ b, (Value.slice al x.lines.length cl2).ownBlock = some b → w7.heap.size ≤ b := fun b hb => by have h1 := hol b hb; have h2 := ((Keeps.nt (Keeps.refl (fun _ => False) w7) (Keeps.alloc (S := fun _ => False) (w7) (.cells #[.int .i64 0, .int .i64 0, .int .i64 0, .int .i64 0, .slice none 0 0, .int .i64 0, .int .i64 0, .int .i64 0, .bool false] 49)))).size; omega
    have hobE : ∀ b, (Value.slice ab2 q.bal.length cb2).ownBlock = some b → w7.heap.size ≤ b := fun b hb => by have h1 := hob b hb; have h2 := ((Keeps.nt (Keeps.refl (fun _ => False) w7) (Keeps.alloc (S := fun _ => False) (w7) (.cells #[.int .i64 0, .int .i64 0, .int .i64 0, .int .i64 0, .slice none 0 0, .int .i64 0, .int .i64 0, .int .i64 0, .bool false] 49)))).size; omega
    rw [← hwE]
    obtain ⟨b8, hb8e⟩ : ∃ x, x = w7.heap.size := ⟨_, rfl⟩
    obtain ⟨b9, hb9e⟩ : ∃ x, x = w5.heap.size := ⟨_, rfl⟩
    have hne : ¬ b8 = b9 := by rw [hb8e, hb9e]; omega
    have hn8 : w7.heap.size ≤ b8 := by rw [hb8e]; omega
    have hn9 : w7.heap.size ≤ b9 := by rw [hb9e]; omega
    rw [← hb8e] at hb8 ⊢
    rw [← hb9e] at hb9 ⊢
    clear hb8e hb9e hwE hln hbn2 hk5 hol hob k5E hs5
    have ya0 := cell_of_cells hb8 0
    have yb0 := free_of_cells hb8 0
    have ya1 := cell_of_cells hb8 1
    have yb1 := free_of_cells hb8 1
    have ya2 := cell_of_cells hb8 2
    have yb2 := free_of_cells hb8 2
    have ya3 := cell_of_cells hb8 3
    have yb3 := free_of_cells hb8 3
    have ya4 := cell_of_cells hb8 4
    have yb4 := free_of_cells hb8 4
    have ya5 := cell_of_cells hb8 5
    have yb5 := free_of_cells hb8 5
    have ya6 := cell_of_cells hb8 6
    have yb6 := free_of_cells hb8 6
    have ya7 := cell_of_cells hb8 7
    have yb7 := free_of_cells hb8 7
    have ya8 := cell_of_cells hb8 8
    have yb8 := free_of_cells hb8 8
    have yc0 := cell_of_cells hb9 0
    have yd0 := free_of_cells hb9 0
    have yc1 := cell_of_cells hb9 1
    have yd1 := free_of_cells hb9 1
    have yc2 := cell_of_cells hb9 2
    have yd2 := free_of_cells hb9 2
    have yl8 := lt_of_block hb8
    have yl9 := lt_of_block hb9
    have hne2 : ¬ b9 = b8 := fun e => hne e.symm
    have hl8 : ∀ b, (Value.slice al x.lines.length cl2).ownBlock = some b → ¬ b = b8 := fun b hb e => by subst e; exact ownsRow_ne hlnE hb8 (by decide) hb
    have hl9 : ∀ b, (Value.slice al x.lines.length cl2).ownBlock = some b → ¬ b = b9 := fun b hb e => by subst e; exact ownsRow_ne hlnE hb9 (by decide) hb
    have hq8 : ∀ b, (Value.slice ab2 q.bal.length cb2).ownBlock = some b → ¬ b = b8 := fun b hb e => by subst e; exact ownsRow_ne hbnE hb8 (by decide) hb
    have hq9 : ∀ b, (Value.slice ab2 q.bal.length cb2).ownBlock = some b → ¬ b = b9 := fun b hb e => by subst e; exact ownsRow_ne hbnE hb9 (by decide) hb
    obtain ⟨hb8', k8⟩ := store9 hb8 (.int .i64 x.cycle) (.int .i64 x.fr) (.int .i64 x.te) (.int .i64 x.due) (.slice al x.lines.length cl2) (.int .i64 x.total) (.int .i64 x.credit) (.int .i64 x.min) (.bool x.grace)
    obtain ⟨hb9', k9⟩ := store3 (box_old hb9 k8 hne2) (.slice ab2 q.bal.length cb2) (.int .i64 q.cr) (.int .i64 q.du)
    have hb8F := box_old hb8' k9 (fun e => hne e)
    have kE8 := k7E.trans (k8.mono fun i _ e => .inr (by have e' : i = b8 := e; omega))
    have kEF := kE8.trans (k9.mono fun i _ e => .inr (by have e' : i = b9 := e; omega))
    have hlnF := k9.row (k8.row hlnE hl8) hl9
    have hbnF := k9.row (k8.row hbnE hq8) hq9
    have hsA := hs7.keep kE8
    have hsB := hs7.keep kEF
    obtain ⟨Hb8, Hb9, Hb8', K8, K9, KE8, Hl8, Hl9, Hq8⟩ := hid9 hb8 hb9 hb8' k8 k9 kE8 hl8 hl9 hq8; clear hq8 hl9 hl8 kE8 k9 k8 hb8' hb9 hb8; obtain ⟨Hq9, HlnE, HbnE, HsA⟩ := hid4 hq9 hlnE hbnE hsA; clear hsA hbnE hlnE hq9
    refine mix_move rfl (fun K hK => ?_)
    go_simp
    refine hK.out _ _ (by exact HsA.out) ?_
    clear hK K
    try simp only [Act.put, List.setIfInBounds_toArray, List.set_cons_zero, List.set_cons_succ]
    repeat (first
     | (refine mix_skip rfl (by rfl) ?_; try simp only [Act.put, List.setIfInBounds_toArray, List.set_cons_zero, List.set_cons_succ])
     | (refine mix_skipm rfl (by rfl) ?_; try simp only [Act.put, List.setIfInBounds_toArray, List.set_cons_zero, List.set_cons_succ])
     | (refine mix_take (v := ?_) rfl (by rfl) ?_ ?_; rotate_left; (· intro w' hSw; unfold c7S at hSw; go_simp; (try with_reducible rfl)); rotate_right; try simp only [Act.put, List.setIfInBounds_toArray, List.set_cons_zero, List.set_cons_succ]))
    have HsB := Lib.hid hsB
    clear hsB
    refine mix_move rfl (fun K hK => ?_)
    go_simp
    refine hK.out _ _ (by exact HsB.out) ?_
    clear hK K
    try simp only [Act.put, List.setIfInBounds_toArray, List.set_cons_zero, List.set_cons_succ]
    repeat (first
     | (refine mix_skip rfl (by rfl) ?_; try simp only [Act.put, List.setIfInBounds_toArray, List.set_cons_zero, List.set_cons_succ])
     | (refine mix_skipm rfl (by rfl) ?_; try simp only [Act.put, List.setIfInBounds_toArray, List.set_cons_zero, List.set_cons_succ])
     | (refine mix_take (v := ?_) rfl (by rfl) ?_ ?_; rotate_left; (· intro w' hSw; unfold c7S at hSw; go_simp; (try with_reducible rfl)); rotate_right; try simp only [Act.put, List.setIfInBounds_toArray, List.set_cons_zero, List.set_cons_succ]))
    refine mix_done ?_
    clear ya0 yb0 ya1 yb1 ya2 yb2 ya3 yb3 ya4 yb4 ya5 yb5 ya6 yb6 ya7 yb7 ya8 yb8 yc0 yd0 yc1 yd1 yc2 yd2 yl8 yl9 hs7
    obtain ⟨wF, hwF⟩ : ∃ y, y = ((((((((((((wE.setCell ⟨b8, 0, none⟩ (.int .i64 x.cycle)).setCell ⟨b8, 1, none⟩ (.int .i64 x.fr)).setCell ⟨b8, 2, none⟩ (.int .i64 x.te)).setCell ⟨b8, 3, none⟩ (.int .i64 x.due)).setCell ⟨b8, 4, none⟩ (.slice al x.lines.length cl2)).setCell ⟨b8, 5, none⟩ (.int .i64 x.total)).setCell ⟨b8, 6, none⟩ (.int .i64 x.credit)).setCell ⟨b8, 7, none⟩ (.int .i64 x.min)).setCell ⟨b8, 8, none⟩ (.bool x.grace)).setCell ⟨b9, 0, none⟩ (.slice ab2 q.bal.length cb2)).setCell ⟨b9, 1, none⟩ (.int .i64 q.cr)).setCell ⟨b9, 2, none⟩ (.int .i64 q.du)) := ⟨_, rfl⟩
    rw [← hwF] at hb8F hb9' kEF hlnF hbnF ⊢
    clear hwF
    have Hn8 := Lib.hid hn8
    clear hn8
    have hr7 := Hr4.out.keep0 Hk7.out
    have hrF := hr7.keep0 kEF
    have b19 := cell_of_cells hrF.blk 19
    have hnil : ∀ w : World, (binOp .neq 73 .nilFunc .nilFunc).run Try.prog w = .ok (.bool false) w := fun _ => by kernel_rfl
    rcases D with _ | ⟨x', q'⟩
    ·have hC' := HC.out
     simp only at hC'
     subst hC'
     have hcv := Hcv.out
     simp only [cloVal, Prod.mk.injEq] at hcv
     obtain ⟨rfl, rfl, rfl⟩ := hcv
     obtain ⟨Hb8F, Hb9', KEF, HlnF, HbnF, Hr7, HrF, Hnil, HolE⟩ := hid9 hb8F hb9' kEF hlnF hbnF hr7 hrF hnil holE; clear holE hnil hrF hr7 hbnF hlnF kEF hb9' hb8F; have HobE := Lib.hid hobE; clear hobE
     go_wp2
     go_ret
     exact ⟨rfl, HrF.out⟩
    ·have hC' := HC.out
     simp only at hC'
     have hcv := Hcv.out
     simp only [cloVal, Prod.mk.injEq] at hcv
     obtain ⟨rfl, rfl, rfl⟩ := hcv
     obtain ⟨hql, _⟩ := closeR_ok Hz.out Hpr.out (by rw [HVl.out]; exact H.out.nb.symm) (List.all_eq_true.2 fun y hy => (moneyP_iff y).2 (HVb.out y hy)) HD.out
     have hqn : x'.lines.length = x'.lines.length := rfl
     rw [H.out.nb] at hql
     rw [hql] at hbnF hb9' hobE ⊢
     have u10 := (heap_setCell_same _ _ 10 _ _ (.slice ab2 n cb2) hrF.blk).trans rfl
     have u11 := (heap_setCell_same _ _ 11 _ _ (.int .i64 q'.cr) u10).trans rfl
     have u12 := (heap_setCell_same _ _ 12 _ _ (.int .i64 q'.du) u11).trans rfl
     have kB : Keeps (fun i => i = B) wF (((wF.setCell ⟨B, 10, none⟩ (.slice ab2 n cb2)).setCell ⟨B, 11, none⟩ (.int .i64 q'.cr)).setCell ⟨B, 12, none⟩ (.int .i64 q'.du)) := ((Keeps.setCell (S := fun i => i = B) _ _ _ rfl).trans (Keeps.setCell _ _ _ (.inl rfl))).trans (Keeps.setCell _ _ _ (.inl rfl))
     have hupd := hr7.upd kEF kB u12 hbnF hrF.rts hql Hr4.out.nr (.inr hobE) (.inl rfl)
     have hB8 : ¬ b8 = B := fun e => by
      have h1 := hb8F
      rw [e, hrF.blk] at h1
      injection h1 with h1
      injection h1 with _ h1 _
      exact absurd h1 (by decide)
     have hb8G := box_old hb8F kB hB8
     have hlnG := kB.row hlnF (fun i hi e => by have e' : i = B := e; subst e'; exact ownsRow_ne hlnF hrF.blk (by decide) hi)
     have p0 := cell_of_cells hb9' 0
     have p1 := cell_of_cells hb9' 1
     have p2 := cell_of_cells hb9' 2
     have pl := lt_of_block hb9'
     have b10 := cell_of_cells hrF.blk 10
     have b11 := cell_of_cells hrF.blk 11
     have b12 := cell_of_cells hrF.blk 12
     have f10 := free_of_cells hrF.blk 10
     have f11 := free_of_cells hrF.blk 11
     have f12 := free_of_cells hrF.blk 12
     have bl2 := lt_of_block hrF.blk
     obtain ⟨W12, hW12⟩ : ∃ y, y = (((wF.setCell ⟨B, 10, none⟩ (.slice ab2 n cb2)).setCell ⟨B, 11, none⟩ (.int .i64 q'.cr)).setCell ⟨B, 12, none⟩ (.int .i64 q'.du)) := ⟨_, rfl⟩
     rw [← hW12] at hupd hb8G hlnG
     have hS13 := r13S.keep (r13S.of hupd.blk rfl hb8G) (Keeps.drew (S := fun _ => False) _) (by simp) (by simp)
     have holX : Own w0 X (.slice al x'.lines.length cl2) := hr7.ownN holE
     obtain ⟨Hb8F, Hb9', KEF, HlnF, HbnF, Hr7, HrF, HolE, HobE⟩ := hid9 hb8F hb9' kEF hlnF hbnF hr7 hrF holE hobE; clear hobE holE hrF hr7 hbnF hlnF kEF hb9' hb8F; obtain ⟨Hql, Hqn, U10, U11, U12, KB, Hupd, HB8, Hb8G⟩ := hid9 hql hqn u10 u11 u12 kB hupd hB8 hb8G; clear hb8G hB8 hupd kB u12 u11 u10 hqn hql; obtain ⟨HlnG, HS13, HolX, HC'⟩ := hid4 hlnG hS13 holX hC'; clear hC' holX hS13 hlnG
     go_wp2_with fail
     rw [← hW12]
     clear hW12 p0 p1 p2 pl b10 b11 b12 f10 f11 f12 bl2 b19 hnil
     refine wp_region_mixy (r13S B b8 (.slice av m cv) x'.cycle x'.fr x'.te x'.due (.slice al x'.lines.length cl2) x'.total x'.credit x'.min x'.grace) 10 (.take 0 (.take 1 (.take 2 (.take 3 (.take 4 (.take 5 (.move 6 (.move 7 (.move 8 (.move 9 (.move 10 .done))))))))))) (by kernel_rfl) (by kernel_rfl) ?_ ?_
     ·exact HS13.out
     intro w13 hs13 hk13
     repeat (first
      | (refine mix_skip rfl (by rfl) ?_; try simp only [Act.put, List.setIfInBounds_toArray, List.set_cons_zero, List.set_cons_succ])
      | (refine mix_skipm rfl (by rfl) ?_; try simp only [Act.put, List.setIfInBounds_toArray, List.set_cons_zero, List.set_cons_succ])
      | (refine mix_take (v := ?_) rfl (by rfl) ?_ ?_; rotate_left; (· intro w' hSw; unfold r13S at hSw; go_simp; (try with_reducible rfl)); rotate_right; try simp only [Act.put, List.setIfInBounds_toArray, List.set_cons_zero, List.set_cons_succ]))
     refine mix_move rfl (fun K hK => ?_)
     go_simp
     refine hK.out _ _ (by exact hs13.keep (S := fun _ => False) (Keeps.alloc _ _) (by simp) (by simp)) ?_
     clear hK K
     try simp only [Act.put, List.setIfInBounds_toArray, List.set_cons_zero, List.set_cons_succ]
     repeat (first
      | (refine mix_skip rfl (by rfl) ?_; try simp only [Act.put, List.setIfInBounds_toArray, List.set_cons_zero, List.set_cons_succ])
      | (refine mix_skipm rfl (by rfl) ?_; try simp only [Act.put, List.setIfInBounds_toArray, List.set_cons_zero, List.set_cons_succ])
      | (refine mix_take (v := ?_) rfl (by rfl) ?_ ?_; rotate_left; (· intro w' hSw; unfold r13S at hSw; go_simp; (try with_reducible rfl)); rotate_right; try simp only [Act.put, List.setIfInBounds_toArray, List.set_cons_zero, List.set_cons_succ]))
     have hk13a := hk13.nt (Keeps.alloc w13 (.cells (SV.cells ⟨x', al, cl2⟩).toArray 49))
     have hrow13 := (Hupd.out.keep0 hk13a).out
     rw [Hmm.out] at hrow13
     refine mix_move rfl (fun K hK => ?_)
     refine step_append_row rfl (.tmp 107) (.tmp 109) 33 rfl 0 49 i0 _ 9 88 Try.underlying33 Hi.out Hi0.out Hi1.out Hi2.out rfl (by decide) (.slice av m cv) m _ rfl hrow13 _ 1 _ rfl (Reads.litAt _ _ _ 9 1 _ (by first | rfl | simp) rfl) (by simp [Value.oneCell']) (by unfold maxLen; omega) (by omega) (Nat.zero_le _) ?_
     intro v14 w14 hown14 hk14 hf14
     obtain ⟨a14, c14, rfl, _, _⟩ := ownsRow_shape hown14
     have hadd := Hupd.out.addOut (x := ⟨x', al, cl2⟩) hk13a hk14 (by rw [Hmm.out, List.flatMap_append]; exact hown14) (HlnG.out.of_keeps hk13a) HolX.out hf14
     have h14b := box_old (Hupd.out.keep0 hk13a).blk hk14 (fun e => ownsRow_ne hrow13 (Hupd.out.keep0 hk13a).blk (by decide) e)
     have hb8n : W.heap.size ≤ b8 := by have h1 := Hk4w.out.size; have h2 := Hk7.out.size; have h3 := Hn8.out; omega
     have h14s : ¬ (Value.slice av m cv).ownBlock = some b8 := fun e => by have := own_lt H.out.out e; omega
     have o16 := cell_of_cells h14b 16
     have of16 := free_of_cells h14b 16
     have ol16 := lt_of_block h14b
     refine hK.out _ _ (by exact (hs13.keep (S := fun _ => False) (Keeps.alloc _ _) (by simp) (by simp)).keep hk14 (fun e => ownsRow_ne hrow13 (Hupd.out.keep0 hk13a).blk (by decide) e) h14s) ?_
     clear hK K
     try simp only [Act.put, List.setIfInBounds_toArray, List.set_cons_zero, List.set_cons_succ]
     obtain ⟨Hk13a, Hrow13, Hown14, Hk14, Hadd, H14b, Hb8n, H14s, Hk13⟩ := hid9 hk13a hrow13 hown14 hk14 hadd h14b hb8n h14s hk13; clear hk13 h14s hb8n h14b hadd hk14 hown14 hrow13 hk13a
     clear hs13 hf14
     repeat (first
      | (refine mix_takem (v := ?_) rfl (by rfl) ?_ ?_; rotate_left; (· intro w' hSw; unfold r13S at hSw; go_simp; (try with_reducible rfl)); rotate_right; try simp only [Act.put, List.setIfInBounds_toArray, List.set_cons_zero, List.set_cons_succ]))
     refine mix_last rfl (fun K hK => ?_)
     go_simp
     refine hK.out _ _ ?_
     clear hK K
     try simp only [Act.put, List.setIfInBounds_toArray, List.set_cons_zero, List.set_cons_succ]
     refine mix_done ?_
     clear o16 of16 ol16
     have hfr := runFresh_any Hadd.out (by omega)
     have Hfr := Lib.hid hfr
     clear hfr
     go_wp2_with fail
     refine Hfr.out.mono ?_
     rintro e w16 ⟨rfl, a16, b16', hr16⟩
     have hCC := HC'.out
     subst hCC
     have Hr16 := Lib.hid hr16; clear hr16
     go_wp2
     go_ret
     exact ⟨rfl, _, _, _, _, _, Hr16.out⟩
   ·skip
    refine mix_move rfl (fun K hK => ?_)
    go_simp
    refine hK.out _ _ (by exact hs7.keep (Keeps.nt (Keeps.nt (Keeps.refl (fun _ => False) w7) (Keeps.alloc (S := fun _ => False) (w7) (.cells #[.int .i64 0, .int .i64 0, .int .i64 0, .int .i64 0, .slice none 0 0, .int .i64 0, .int .i64 0, .int .i64 0, .bool false] 49))) (Keeps.alloc _ _))) ?_
    clear hK K
    try simp only [Act.put, List.setIfInBounds_toArray, List.set_cons_zero, List.set_cons_succ]
    refine mix_move rfl (fun K hK => ?_)
    go_simp
    go_at_call 62
    ((with_reducible refine (Hclo.out _ (Hk7.out.nt (Keeps.nt (Keeps.nt (Keeps.refl (fun _ => False) w7) (Keeps.alloc (S := fun _ => False) (w7) (.cells #[.int .i64 0, .int .i64 0, .int .i64 0, .int .i64 0, .slice none 0 0, .int .i64 0, .int .i64 0, .int .i64 0, .bool false] 49))) (Keeps.alloc (S := fun _ => False) ((w7).alloc (.cells #[.int .i64 0, .int .i64 0, .int .i64 0, .int .i64 0, .slice none 0 0, .int .i64 0, .int .i64 0, .int .i64 0, .bool false] 49)) (.cells #[.slice none 0 0, .int .i64 0, .int .i64 0] 32))))).mono ?_); rintro e w5 hpost)
    obtain ⟨al, cl2, ab2, cb2, rfl, hln, hbn2, hk5, hol, hob⟩ := ClosePost.uni hpost Hcv.out
    clear hpost
    dsimp only
    refine hK.out _ _ (by exact hs7.keep (Keeps.nt (Keeps.nt (Keeps.nt (Keeps.refl (fun _ => False) w7) (Keeps.alloc (S := fun _ => False) (w7) (.cells #[.int .i64 0, .int .i64 0, .int .i64 0, .int .i64 0, .slice none 0 0, .int .i64 0, .int .i64 0, .int .i64 0, .bool false] 49))) (Keeps.alloc (S := fun _ => False) ((w7).alloc (.cells #[.int .i64 0, .int .i64 0, .int .i64 0, .int .i64 0, .slice none 0 0, .int .i64 0, .int .i64 0, .int .i64 0, .bool false] 49)) (.cells #[.slice none 0 0, .int .i64 0, .int .i64 0] 32))) hk5)) ?_
    clear hK K
    try simp only [Act.put, List.setIfInBounds_toArray, List.set_cons_zero, List.set_cons_succ]
    repeat (first
     | (refine mix_skip rfl (by rfl) ?_; try simp only [Act.put, List.setIfInBounds_toArray, List.set_cons_zero, List.set_cons_succ])
     | (refine mix_skipm rfl (by rfl) ?_; try simp only [Act.put, List.setIfInBounds_toArray, List.set_cons_zero, List.set_cons_succ])
     | (refine mix_take (v := ?_) rfl (by rfl) ?_ ?_; rotate_left; (· intro w' hSw; unfold c7S at hSw; go_simp; (try with_reducible rfl)); rotate_right; try simp only [Act.put, List.setIfInBounds_toArray, List.set_cons_zero, List.set_cons_succ]))
    obtain ⟨wE, hwE⟩ : ∃ x, x = w5 := ⟨_, rfl⟩
    have k7E : Keeps (fun _ => False) w7 wE := by rw [hwE]; exact (Keeps.nt (Keeps.nt (Keeps.nt (Keeps.refl (fun _ => False) w7) (Keeps.alloc (S := fun _ => False) (w7) (.cells #[.int .i64 0, .int .i64 0, .int .i64 0, .int .i64 0, .slice none 0 0, .int .i64 0, .int .i64 0, .int .i64 0, .bool false] 49))) (Keeps.alloc (S := fun _ => False) ((w7).alloc (.cells #[.int .i64 0, .int .i64 0, .int .i64 0, .int .i64 0, .slice none 0 0, .int .i64 0, .int .i64 0, .int .i64 0, .bool false] 49)) (.cells #[.slice none 0 0, .int .i64 0, .int .i64 0] 32))) hk5)
    have hb8 : wE.heap[w7.heap.size]? = some (.cells #[.int .i64 0, .int .i64 0, .int .i64 0, .int .i64 0, .slice none 0 0, .int .i64 0, .int .i64 0, .int .i64 0, .bool false] 49 (0, 0)) := by rw [hwE]; exact box_old (box_alloc (heap_alloc_new (w7) _) _) hk5 (by simp)
    have hb9 : wE.heap[w7.heap.size + 1]? = some (.cells #[.slice none 0 0, .int .i64 0, .int .i64 0] 32 (0, 0)) := by rw [hwE]; exact box_old (halloc_at2 _ _ (by simp)) hk5 (by simp)
    have k5E : Keeps (fun _ => False) w5 wE := by rw [hwE]; exact (Keeps.refl (fun _ => False) w5)
    have hlnE := hln.of_keeps k5E
    have hbnE := hbn2.of_keeps k5E
    have hs5 := hk5.size
    try simp at hs5
    have holE : ∀ b, (Value.slice al x.lines.length cl2).ownBlock = some b → w7.heap.size ≤ b := fun b hb => by have h1 := hol b hb; have h2 := ((Keeps.nt (Keeps.nt (Keeps.refl (fun _ => False) w7) (Keeps.alloc (S := fun _ => False) (w7) (.cells #[.int .i64 0, .int .i64 0, .int .i64 0, .int .i64 0, .slice none 0 0, .int .i64 0, .int .i64 0, .int .i64 0, .bool false] 49))) (Keeps.alloc (S := fun _ => False) ((w7).alloc (.cells #[.int .i64 0, .int .i64 0, .int .i64 0, .int .i64 0, .slice none 0 0, .int .i64 0, .int .i64 0, .int .i64 0, .bool false] 49)) (.cells #[.slice none 0 0, .int .i64 0, .int .i64 0] 32)))).size; omega
    have hobE : ∀ b, (Value.slice ab2 q.bal.length cb2).ownBlock = some b → w7.heap.size ≤ b := fun b hb => by have h1 := hob b hb; have h2 := ((Keeps.nt (Keeps.nt (Keeps.refl (fun _ => False) w7) (Keeps.alloc (S := fun _ => False) (w7) (.cells #[.int .i64 0, .int .i64 0, .int .i64 0, .int .i64 0, .slice none 0 0, .int .i64 0, .int .i64 0, .int .i64 0, .bool false] 49))) (Keeps.alloc (S := fun _ => False) ((w7).alloc (.cells #[.int .i64 0, .int .i64 0, .int .i64 0, .int .i64 0, .slice none 0 0, .int .i64 0, .int .i64 0, .int .i64 0, .bool false] 49)) (.cells #[.slice none 0 0, .int .i64 0, .int .i64 0] 32)))).size; omega
    rw [← hwE]
    obtain ⟨b8, hb8e⟩ : ∃ x, x = w7.heap.size := ⟨_, rfl⟩
    obtain ⟨b9, hb9e⟩ : ∃ x, x = w7.heap.size + 1 := ⟨_, rfl⟩
    have hne : ¬ b8 = b9 := by rw [hb8e, hb9e]; omega
    have hn8 : w7.heap.size ≤ b8 := by rw [hb8e]; omega
    have hn9 : w7.heap.size ≤ b9 := by rw [hb9e]; omega
    rw [← hb9e] at hb9 ⊢
    rw [← hb8e] at hb8 ⊢
    clear hb8e hb9e hwE hln hbn2 hk5 hol hob k5E hs5
    have ya0 := cell_of_cells hb8 0
    have yb0 := free_of_cells hb8 0
    have ya1 := cell_of_cells hb8 1
    have yb1 := free_of_cells hb8 1
    have ya2 := cell_of_cells hb8 2
    have yb2 := free_of_cells hb8 2
    have ya3 := cell_of_cells hb8 3
    have yb3 := free_of_cells hb8 3
    have ya4 := cell_of_cells hb8 4
    have yb4 := free_of_cells hb8 4
    have ya5 := cell_of_cells hb8 5
    have yb5 := free_of_cells hb8 5
    have ya6 := cell_of_cells hb8 6
    have yb6 := free_of_cells hb8 6
    have ya7 := cell_of_cells hb8 7
    have yb7 := free_of_cells hb8 7
    have ya8 := cell_of_cells hb8 8
    have yb8 := free_of_cells hb8 8
    have yc0 := cell_of_cells hb9 0
    have yd0 := free_of_cells hb9 0
    have yc1 := cell_of_cells hb9 1
    have yd1 := free_of_cells hb9 1
    have yc2 := cell_of_cells hb9 2
    have yd2 := free_of_cells hb9 2
    have yl8 := lt_of_block hb8
    have yl9 := lt_of_block hb9
    have hne2 : ¬ b9 = b8 := fun e => hne e.symm
    have hl8 : ∀ b, (Value.slice al x.lines.length cl2).ownBlock = some b → ¬ b = b8 := fun b hb e => by subst e; exact ownsRow_ne hlnE hb8 (by decide) hb
    have hl9 : ∀ b, (Value.slice al x.lines.length cl2).ownBlock = some b → ¬ b = b9 := fun b hb e => by subst e; exact ownsRow_ne hlnE hb9 (by decide) hb
    have hq8 : ∀ b, (Value.slice ab2 q.bal.length cb2).ownBlock = some b → ¬ b = b8 := fun b hb e => by subst e; exact ownsRow_ne hbnE hb8 (by decide) hb
    have hq9 : ∀ b, (Value.slice ab2 q.bal.length cb2).ownBlock = some b → ¬ b = b9 := fun b hb e => by subst e; exact ownsRow_ne hbnE hb9 (by decide) hb
    obtain ⟨hb8', k8⟩ := store9 hb8 (.int .i64 x.cycle) (.int .i64 x.fr) (.int .i64 x.te) (.int .i64 x.due) (.slice al x.lines.length cl2) (.int .i64 x.total) (.int .i64 x.credit) (.int .i64 x.min) (.bool x.grace)
    obtain ⟨hb9', k9⟩ := store3 (box_old hb9 k8 hne2) (.slice ab2 q.bal.length cb2) (.int .i64 q.cr) (.int .i64 q.du)
    have hb8F := box_old hb8' k9 (fun e => hne e)
    have kE8 := k7E.trans (k8.mono fun i _ e => .inr (by have e' : i = b8 := e; omega))
    have kEF := kE8.trans (k9.mono fun i _ e => .inr (by have e' : i = b9 := e; omega))
    have hlnF := k9.row (k8.row hlnE hl8) hl9
    have hbnF := k9.row (k8.row hbnE hq8) hq9
    have hsA := hs7.keep kE8
    have hsB := hs7.keep kEF
    obtain ⟨Hb8, Hb9, Hb8', K8, K9, KE8, Hl8, Hl9, Hq8⟩ := hid9 hb8 hb9 hb8' k8 k9 kE8 hl8 hl9 hq8; clear hq8 hl9 hl8 kE8 k9 k8 hb8' hb9 hb8; obtain ⟨Hq9, HlnE, HbnE, HsA⟩ := hid4 hq9 hlnE hbnE hsA; clear hsA hbnE hlnE hq9
    refine mix_move rfl (fun K hK => ?_)
    go_simp
    refine hK.out _ _ (by exact HsA.out) ?_
    clear hK K
    try simp only [Act.put, List.setIfInBounds_toArray, List.set_cons_zero, List.set_cons_succ]
    repeat (first
     | (refine mix_skip rfl (by rfl) ?_; try simp only [Act.put, List.setIfInBounds_toArray, List.set_cons_zero, List.set_cons_succ])
     | (refine mix_skipm rfl (by rfl) ?_; try simp only [Act.put, List.setIfInBounds_toArray, List.set_cons_zero, List.set_cons_succ])
     | (refine mix_take (v := ?_) rfl (by rfl) ?_ ?_; rotate_left; (· intro w' hSw; unfold c7S at hSw; go_simp; (try with_reducible rfl)); rotate_right; try simp only [Act.put, List.setIfInBounds_toArray, List.set_cons_zero, List.set_cons_succ]))
    have HsB := Lib.hid hsB
    clear hsB
    refine mix_move rfl (fun K hK => ?_)
    go_simp
    refine hK.out _ _ (by exact HsB.out) ?_
    clear hK K
    try simp only [Act.put, List.setIfInBounds_toArray, List.set_cons_zero, List.set_cons_succ]
    repeat (first
     | (refine mix_skip rfl (by rfl) ?_; try simp only [Act.put, List.setIfInBounds_toArray, List.set_cons_zero, List.set_cons_succ])
     | (refine mix_skipm rfl (by rfl) ?_; try simp only [Act.put, List.setIfInBounds_toArray, List.set_cons_zero, List.set_cons_succ])
     | (refine mix_take (v := ?_) rfl (by rfl) ?_ ?_; rotate_left; (· intro w' hSw; unfold c7S at hSw; go_simp; (try with_reducible rfl)); rotate_right; try simp only [Act.put, List.setIfInBounds_toArray, List.set_cons_zero, List.set_cons_succ]))
    refine mix_done ?_
    clear ya0 yb0 ya1 yb1 ya2 yb2 ya3 yb3 ya4 yb4 ya5 yb5 ya6 yb6 ya7 yb7 ya8 yb8 yc0 yd0 yc1 yd1 yc2 yd2 yl8 yl9 hs7
    obtain ⟨wF, hwF⟩ : ∃ y, y = ((((((((((((wE.setCell ⟨b8, 0, none⟩ (.int .i64 x.cycle)).setCell ⟨b8, 1, none⟩ (.int .i64 x.fr)).setCell ⟨b8, 2, none⟩ (.int .i64 x.te)).setCell ⟨b8, 3, none⟩ (.int .i64 x.due)).setCell ⟨b8, 4, none⟩ (.slice al x.lines.length cl2)).setCell ⟨b8, 5, none⟩ (.int .i64 x.total)).setCell ⟨b8, 6, none⟩ (.int .i64 x.credit)).setCell ⟨b8, 7, none⟩ (.int .i64 x.min)).setCell ⟨b8, 8, none⟩ (.bool x.grace)).setCell ⟨b9, 0, none⟩ (.slice ab2 q.bal.length cb2)).setCell ⟨b9, 1, none⟩ (.int .i64 q.cr)).setCell ⟨b9, 2, none⟩ (.int .i64 q.du)) := ⟨_, rfl⟩
    rw [← hwF] at hb8F hb9' kEF hlnF hbnF ⊢
    clear hwF
    have Hn8 := Lib.hid hn8
    clear hn8
    have hr7 := Hr4.out.keep0 Hk7.out
    have hrF := hr7.keep0 kEF
    have b19 := cell_of_cells hrF.blk 19
    have hnil : ∀ w : World, (binOp .neq 73 .nilFunc .nilFunc).run Try.prog w = .ok (.bool false) w := fun _ => by kernel_rfl
    rcases D with _ | ⟨x', q'⟩
    ·have hC' := HC.out
     simp only at hC'
     subst hC'
     have hcv := Hcv.out
     simp only [cloVal, Prod.mk.injEq] at hcv
     obtain ⟨rfl, rfl, rfl⟩ := hcv
     obtain ⟨Hb8F, Hb9', KEF, HlnF, HbnF, Hr7, HrF, Hnil, HolE⟩ := hid9 hb8F hb9' kEF hlnF hbnF hr7 hrF hnil holE; clear holE hnil hrF hr7 hbnF hlnF kEF hb9' hb8F; have HobE := Lib.hid hobE; clear hobE
     go_wp2
     go_ret
     exact ⟨rfl, HrF.out⟩
    ·have hC' := HC.out
     simp only at hC'
     have hcv := Hcv.out
     simp only [cloVal, Prod.mk.injEq] at hcv
     obtain ⟨rfl, rfl, rfl⟩ := hcv
     obtain ⟨hql, _⟩ := closeR_ok Hz.out Hpr.out (by rw [HVl.out]; exact H.out.nb.symm) (List.all_eq_true.2 fun y hy => (moneyP_iff y).2 (HVb.out y hy)) HD.out
     have hqn : x'.lines.length = x'.lines.length := rfl
     rw [H.out.nb] at hql
     rw [hql] at hbnF hb9' hobE ⊢
     have u10 := (heap_setCell_same _ _ 10 _ _ (.slice ab2 n cb2) hrF.blk).trans rfl
     have u11 := (heap_setCell_same _ _ 11 _ _ (.int .i64 q'.cr) u10).trans rfl
     have u12 := (heap_setCell_same _ _ 12 _ _ (.int .i64 q'.du) u11).trans rfl
     have kB : Keeps (fun i => i = B) wF (((wF.setCell ⟨B, 10, none⟩ (.slice ab2 n cb2)).setCell ⟨B, 11, none⟩ (.int .i64 q'.cr)).setCell ⟨B, 12, none⟩ (.int .i64 q'.du)) := ((Keeps.setCell (S := fun i => i = B) _ _ _ rfl).trans (Keeps.setCell _ _ _ (.inl rfl))).trans (Keeps.setCell _ _ _ (.inl rfl))
     have hupd := hr7.upd kEF kB u12 hbnF hrF.rts hql Hr4.out.nr (.inr hobE) (.inl rfl)
     have hB8 : ¬ b8 = B := fun e => by
      have h1 := hb8F
      rw [e, hrF.blk] at h1
      injection h1 with h1
      injection h1 with _ h1 _
      exact absurd h1 (by decide)
     have hb8G := box_old hb8F kB hB8
     have hlnG := kB.row hlnF (fun i hi e => by have e' : i = B := e; subst e'; exact ownsRow_ne hlnF hrF.blk (by decide) hi)
     have p0 := cell_of_cells hb9' 0
     have p1 := cell_of_cells hb9' 1
     have p2 := cell_of_cells hb9' 2
     have pl := lt_of_block hb9'
     have b10 := cell_of_cells hrF.blk 10
     have b11 := cell_of_cells hrF.blk 11
     have b12 := cell_of_cells hrF.blk 12
     have f10 := free_of_cells hrF.blk 10
     have f11 := free_of_cells hrF.blk 11
     have f12 := free_of_cells hrF.blk 12
     have bl2 := lt_of_block hrF.blk
     obtain ⟨W12, hW12⟩ : ∃ y, y = (((wF.setCell ⟨B, 10, none⟩ (.slice ab2 n cb2)).setCell ⟨B, 11, none⟩ (.int .i64 q'.cr)).setCell ⟨B, 12, none⟩ (.int .i64 q'.du)) := ⟨_, rfl⟩
     rw [← hW12] at hupd hb8G hlnG
     have hS13 := r13S.keep (r13S.of hupd.blk rfl hb8G) (Keeps.drew (S := fun _ => False) _) (by simp) (by simp)
     have holX : Own w0 X (.slice al x'.lines.length cl2) := hr7.ownN holE
     obtain ⟨Hb8F, Hb9', KEF, HlnF, HbnF, Hr7, HrF, HolE, HobE⟩ := hid9 hb8F hb9' kEF hlnF hbnF hr7 hrF holE hobE; clear hobE holE hrF hr7 hbnF hlnF kEF hb9' hb8F; obtain ⟨Hql, Hqn, U10, U11, U12, KB, Hupd, HB8, Hb8G⟩ := hid9 hql hqn u10 u11 u12 kB hupd hB8 hb8G; clear hb8G hB8 hupd kB u12 u11 u10 hqn hql; obtain ⟨HlnG, HS13, HolX, HC'⟩ := hid4 hlnG hS13 holX hC'; clear hC' holX hS13 hlnG
     go_wp2_with fail
     rw [← hW12]
     clear hW12 p0 p1 p2 pl b10 b11 b12 f10 f11 f12 bl2 b19 hnil
     refine wp_region_mixy (r13S B b8 (.slice av m cv) x'.cycle x'.fr x'.te x'.due (.slice al x'.lines.length cl2) x'.total x'.credit x'.min x'.grace) 10 (.take 0 (.take 1 (.take 2 (.take 3 (.take 4 (.take 5 (.move 6 (.move 7 (.move 8 (.move 9 (.move 10 .done))))))))))) (by kernel_rfl) (by kernel_rfl) ?_ ?_
     ·exact HS13.out
     intro w13 hs13 hk13
     repeat (first
      | (refine mix_skip rfl (by rfl) ?_; try simp only [Act.put, List.setIfInBounds_toArray, List.set_cons_zero, List.set_cons_succ])
      | (refine mix_skipm rfl (by rfl) ?_; try simp only [Act.put, List.setIfInBounds_toArray, List.set_cons_zero, List.set_cons_succ])
      | (refine mix_take (v := ?_) rfl (by rfl) ?_ ?_; rotate_left; (· intro w' hSw; unfold r13S at hSw; go_simp; (try with_reducible rfl)); rotate_right; try simp only [Act.put, List.setIfInBounds_toArray, List.set_cons_zero, List.set_cons_succ]))
     refine mix_move rfl (fun K hK => ?_)
     go_simp
     refine hK.out _ _ (by exact hs13.keep (S := fun _ => False) (Keeps.alloc _ _) (by simp) (by simp)) ?_
     clear hK K
     try simp only [Act.put, List.setIfInBounds_toArray, List.set_cons_zero, List.set_cons_succ]
     repeat (first
      | (refine mix_skip rfl (by rfl) ?_; try simp only [Act.put, List.setIfInBounds_toArray, List.set_cons_zero, List.set_cons_succ])
      | (refine mix_skipm rfl (by rfl) ?_; try simp only [Act.put, List.setIfInBounds_toArray, List.set_cons_zero, List.set_cons_succ])
      | (refine mix_take (v := ?_) rfl (by rfl) ?_ ?_; rotate_left; (· intro w' hSw; unfold r13S at hSw; go_simp; (try with_reducible rfl)); rotate_right; try simp only [Act.put, List.setIfInBounds_toArray, List.set_cons_zero, List.set_cons_succ]))
     have hk13a := hk13.nt (Keeps.alloc w13 (.cells (SV.cells ⟨x', al, cl2⟩).toArray 49))
     have hrow13 := (Hupd.out.keep0 hk13a).out
     rw [Hmm.out] at hrow13
     refine mix_move rfl (fun K hK => ?_)
     refine step_append_row rfl (.tmp 107) (.tmp 109) 33 rfl 0 49 i0 _ 9 88 Try.underlying33 Hi.out Hi0.out Hi1.out Hi2.out rfl (by decide) (.slice av m cv) m _ rfl hrow13 _ 1 _ rfl (Reads.litAt _ _ _ 9 1 _ (by first | rfl | simp) rfl) (by simp [Value.oneCell']) (by unfold maxLen; omega) (by omega) (Nat.zero_le _) ?_
     intro v14 w14 hown14 hk14 hf14
     obtain ⟨a14, c14, rfl, _, _⟩ := ownsRow_shape hown14
     have hadd := Hupd.out.addOut (x := ⟨x', al, cl2⟩) hk13a hk14 (by rw [Hmm.out, List.flatMap_append]; exact hown14) (HlnG.out.of_keeps hk13a) HolX.out hf14
     have h14b := box_old (Hupd.out.keep0 hk13a).blk hk14 (fun e => ownsRow_ne hrow13 (Hupd.out.keep0 hk13a).blk (by decide) e)
     have hb8n : W.heap.size ≤ b8 := by have h1 := Hk4w.out.size; have h2 := Hk7.out.size; have h3 := Hn8.out; omega
     have h14s : ¬ (Value.slice av m cv).ownBlock = some b8 := fun e => by have := own_lt H.out.out e; omega
     have o16 := cell_of_cells h14b 16
     have of16 := free_of_cells h14b 16
     have ol16 := lt_of_block h14b
     refine hK.out _ _ (by exact (hs13.keep (S := fun _ => False) (Keeps.alloc _ _) (by simp) (by simp)).keep hk14 (fun e => ownsRow_ne hrow13 (Hupd.out.keep0 hk13a).blk (by decide) e) h14s) ?_
     clear hK K
     try simp only [Act.put, List.setIfInBounds_toArray, List.set_cons_zero, List.set_cons_succ]
     obtain ⟨Hk13a, Hrow13, Hown14, Hk14, Hadd, H14b, Hb8n, H14s, Hk13⟩ := hid9 hk13a hrow13 hown14 hk14 hadd h14b hb8n h14s hk13; clear hk13 h14s hb8n h14b hadd hk14 hown14 hrow13 hk13a
     clear hs13 hf14
     repeat (first
      | (refine mix_takem (v := ?_) rfl (by rfl) ?_ ?_; rotate_left; (· intro w' hSw; unfold r13S at hSw; go_simp; (try with_reducible rfl)); rotate_right; try simp only [Act.put, List.setIfInBounds_toArray, List.set_cons_zero, List.set_cons_succ]))
     refine mix_last rfl (fun K hK => ?_)
     go_simp
     refine hK.out _ _ ?_
     clear hK K
     try simp only [Act.put, List.setIfInBounds_toArray, List.set_cons_zero, List.set_cons_succ]
     refine mix_done ?_
     clear o16 of16 ol16
     have hfr := runFresh_any Hadd.out (by omega)
     have Hfr := Lib.hid hfr
     clear hfr
     go_wp2_with fail
     refine Hfr.out.mono ?_
     rintro e w16 ⟨rfl, a16, b16', hr16⟩
     have hCC := HC'.out
     subst hCC
     have Hr16 := Lib.hid hr16; clear hr16
     go_wp2
     go_ret
     exact ⟨rfl, _, _, _, _, _, Hr16.out⟩
  ·skip
   refine mix_move rfl (fun K hK => ?_)
   go_simp
   refine hK.out _ _ (by exact hs7.keep (Keeps.nt (Keeps.refl (fun _ => False) w7) (Keeps.alloc _ _))) ?_
   clear hK K
   try simp only [Act.put, List.setIfInBounds_toArray, List.set_cons_zero, List.set_cons_succ]
   refine mix_fork ?_ ?_ (hs7.keep (Keeps.nt (Keeps.refl (fun _ => False) w7) (Keeps.alloc _ _)))
   ·skip
    refine mix_move rfl (fun K hK => ?_)
    go_simp
    go_at_call 62
    ((with_reducible refine (Hclo.out _ (Hk7.out.nt (Keeps.nt (Keeps.refl (fun _ => False) w7) (Keeps.alloc (S := fun _ => False) (w7) (.cells #[.slice none 0 0, .int .i64 0, .int .i64 0] 32))))).mono ?_); rintro e w5 hpost)
    obtain ⟨al, cl2, ab2, cb2, rfl, hln, hbn2, hk5, hol, hob⟩ := ClosePost.uni hpost Hcv.out
    clear hpost
    dsimp only
    refine hK.out _ _ (by exact hs7.keep (Keeps.nt (Keeps.nt (Keeps.refl (fun _ => False) w7) (Keeps.alloc (S := fun _ => False) (w7) (.cells #[.slice none 0 0, .int .i64 0, .int .i64 0] 32))) hk5)) ?_
    clear hK K
    try simp only [Act.put, List.setIfInBounds_toArray, List.set_cons_zero, List.set_cons_succ]
    repeat (first
     | (refine mix_skip rfl (by rfl) ?_; try simp only [Act.put, List.setIfInBounds_toArray, List.set_cons_zero, List.set_cons_succ])
     | (refine mix_skipm rfl (by rfl) ?_; try simp only [Act.put, List.setIfInBounds_toArray, List.set_cons_zero, List.set_cons_succ])
     | (refine mix_take (v := ?_) rfl (by rfl) ?_ ?_; rotate_left; (· intro w' hSw; unfold c7S at hSw; go_simp; (try with_reducible rfl)); rotate_right; try simp only [Act.put, List.setIfInBounds_toArray, List.set_cons_zero, List.set_cons_succ]))
    refine mix_move rfl (fun K hK => ?_)
    go_simp
    refine hK.out _ _ (by exact hs7.keep (Keeps.nt (Keeps.nt (Keeps.nt (Keeps.refl (fun _ => False) w7) (Keeps.alloc (S := fun _ => False) (w7) (.cells #[.slice none 0 0, .int .i64 0, .int .i64 0] 32))) hk5) (Keeps.alloc _ _))) ?_
    clear hK K
    try simp only [Act.put, List.setIfInBounds_toArray, List.set_cons_zero, List.set_cons_succ]
    obtain ⟨wE, hwE⟩ : ∃ x, x = (w5).alloc (.cells #[.int .i64 0, .int .i64 0, .int .i64 0, .int .i64 0, .slice none 0 0, .int .i64 0, .int .i64 0, .int .i64 0, .bool false] 49) := ⟨_, rfl⟩
    have k7E : Keeps (fun _ => False) w7 wE := by rw [hwE]; exact (Keeps.nt (Keeps.nt (Keeps.nt (Keeps.refl (fun _ => False) w7) (Keeps.alloc (S := fun _ => False) (w7) (.cells #[.slice none 0 0, .int .i64 0, .int .i64 0] 32))) hk5) (Keeps.alloc (S := fun _ => False) (w5) (.cells #[.int .i64 0, .int .i64 0, .int .i64 0, .int .i64 0, .slice none 0 0, .int .i64 0, .int .i64 0, .int .i64 0, .bool false] 49)))
    have hb8 : wE.heap[w5.heap.size]? = some (.cells #[.int .i64 0, .int .i64 0, .int .i64 0, .int .i64 0, .slice none 0 0, .int .i64 0, .int .i64 0, .int .i64 0, .bool false] 49 (0, 0)) := by rw [hwE]; exact heap_alloc_new (w5) _
    have hb9 : wE.heap[w7.heap.size]? = some (.cells #[.slice none 0 0, .int .i64 0, .int .i64 0] 32 (0, 0)) := by rw [hwE]; exact box_alloc (box_old (heap_alloc_new (w7) _) hk5 (by simp)) _
    have k5E : Keeps (fun _ => False) w5 wE := by rw [hwE]; exact (Keeps.nt (Keeps.refl (fun _ => False) w5) (Keeps.alloc (S := fun _ => False) (w5) (.cells #[.int .i64 0, .int .i64 0, .int .i64 0, .int .i64 0, .slice none 0 0, .int .i64 0, .int .i64 0, .int .i64 0, .bool false] 49)))
    have hlnE := hln.of_keeps k5E
    have hbnE := hbn2.of_keeps k5E
    have hs5 := hk5.size
    try simp at hs5
    have holE : ∀ b, (Value.slice al x.lines.length cl2).ownBlock = some b → w7.heap.size ≤ b := fun b hb => by have h1 := hol b hb; have h2 := ((Keeps.nt (Keeps.refl (fun _ => False) w7) (Keeps.alloc (S := fun _ => False) (w7) (.cells #[.slice none 0 0, .int .i64 0, .int .i64 0] 32)))).size; omega
    have hobE : ∀ b, (Value.slice ab2 q.bal.length cb2).ownBlock = some b → w7.heap.size ≤ b := fun b hb => by have h1 := hob b hb; have h2 := ((Keeps.nt (Keeps.refl (fun _ => False) w7) (Keeps.alloc (S := fun _ => False) (w7) (.cells #[.slice none 0 0, .int .i64 0, .int .i64 0] 32)))).size; omega
    rw [← hwE]
    obtain ⟨b8, hb8e⟩ : ∃ x, x = w5.heap.size := ⟨_, rfl⟩
    obtain ⟨b9, hb9e⟩ : ∃ x, x = w7.heap.size := ⟨_, rfl⟩
    have hne : ¬ b8 = b9 := by rw [hb8e, hb9e]; omega
    have hn8 : w7.heap.size ≤ b8 := by rw [hb8e]; omega
    have hn9 : w7.heap.size ≤ b9 := by rw [hb9e]; omega
    rw [← hb8e] at hb8 ⊢
    rw [← hb9e] at hb9 ⊢
    clear hb8e hb9e hwE hln hbn2 hk5 hol hob k5E hs5
    have ya0 := cell_of_cells hb8 0
    have yb0 := free_of_cells hb8 0
    have ya1 := cell_of_cells hb8 1
    have yb1 := free_of_cells hb8 1
    have ya2 := cell_of_cells hb8 2
    have yb2 := free_of_cells hb8 2
    have ya3 := cell_of_cells hb8 3
    have yb3 := free_of_cells hb8 3
    have ya4 := cell_of_cells hb8 4
    have yb4 := free_of_cells hb8 4
    have ya5 := cell_of_cells hb8 5
    have yb5 := free_of_cells hb8 5
    have ya6 := cell_of_cells hb8 6
    have yb6 := free_of_cells hb8 6
    have ya7 := cell_of_cells hb8 7
    have yb7 := free_of_cells hb8 7
    have ya8 := cell_of_cells hb8 8
    have yb8 := free_of_cells hb8 8
    have yc0 := cell_of_cells hb9 0
    have yd0 := free_of_cells hb9 0
    have yc1 := cell_of_cells hb9 1
    have yd1 := free_of_cells hb9 1
    have yc2 := cell_of_cells hb9 2
    have yd2 := free_of_cells hb9 2
    have yl8 := lt_of_block hb8
    have yl9 := lt_of_block hb9
    have hne2 : ¬ b9 = b8 := fun e => hne e.symm
    have hl8 : ∀ b, (Value.slice al x.lines.length cl2).ownBlock = some b → ¬ b = b8 := fun b hb e => by subst e; exact ownsRow_ne hlnE hb8 (by decide) hb
    have hl9 : ∀ b, (Value.slice al x.lines.length cl2).ownBlock = some b → ¬ b = b9 := fun b hb e => by subst e; exact ownsRow_ne hlnE hb9 (by decide) hb
    have hq8 : ∀ b, (Value.slice ab2 q.bal.length cb2).ownBlock = some b → ¬ b = b8 := fun b hb e => by subst e; exact ownsRow_ne hbnE hb8 (by decide) hb
    have hq9 : ∀ b, (Value.slice ab2 q.bal.length cb2).ownBlock = some b → ¬ b = b9 := fun b hb e => by subst e; exact ownsRow_ne hbnE hb9 (by decide) hb
    obtain ⟨hb8', k8⟩ := store9 hb8 (.int .i64 x.cycle) (.int .i64 x.fr) (.int .i64 x.te) (.int .i64 x.due) (.slice al x.lines.length cl2) (.int .i64 x.total) (.int .i64 x.credit) (.int .i64 x.min) (.bool x.grace)
    obtain ⟨hb9', k9⟩ := store3 (box_old hb9 k8 hne2) (.slice ab2 q.bal.length cb2) (.int .i64 q.cr) (.int .i64 q.du)
    have hb8F := box_old hb8' k9 (fun e => hne e)
    have kE8 := k7E.trans (k8.mono fun i _ e => .inr (by have e' : i = b8 := e; omega))
    have kEF := kE8.trans (k9.mono fun i _ e => .inr (by have e' : i = b9 := e; omega))
    have hlnF := k9.row (k8.row hlnE hl8) hl9
    have hbnF := k9.row (k8.row hbnE hq8) hq9
    have hsA := hs7.keep kE8
    have hsB := hs7.keep kEF
    obtain ⟨Hb8, Hb9, Hb8', K8, K9, KE8, Hl8, Hl9, Hq8⟩ := hid9 hb8 hb9 hb8' k8 k9 kE8 hl8 hl9 hq8; clear hq8 hl9 hl8 kE8 k9 k8 hb8' hb9 hb8; obtain ⟨Hq9, HlnE, HbnE, HsA⟩ := hid4 hq9 hlnE hbnE hsA; clear hsA hbnE hlnE hq9
    refine mix_move rfl (fun K hK => ?_)
    go_simp
    refine hK.out _ _ (by exact HsA.out) ?_
    clear hK K
    try simp only [Act.put, List.setIfInBounds_toArray, List.set_cons_zero, List.set_cons_succ]
    repeat (first
     | (refine mix_skip rfl (by rfl) ?_; try simp only [Act.put, List.setIfInBounds_toArray, List.set_cons_zero, List.set_cons_succ])
     | (refine mix_skipm rfl (by rfl) ?_; try simp only [Act.put, List.setIfInBounds_toArray, List.set_cons_zero, List.set_cons_succ])
     | (refine mix_take (v := ?_) rfl (by rfl) ?_ ?_; rotate_left; (· intro w' hSw; unfold c7S at hSw; go_simp; (try with_reducible rfl)); rotate_right; try simp only [Act.put, List.setIfInBounds_toArray, List.set_cons_zero, List.set_cons_succ]))
    have HsB := Lib.hid hsB
    clear hsB
    refine mix_move rfl (fun K hK => ?_)
    go_simp
    refine hK.out _ _ (by exact HsB.out) ?_
    clear hK K
    try simp only [Act.put, List.setIfInBounds_toArray, List.set_cons_zero, List.set_cons_succ]
    repeat (first
     | (refine mix_skip rfl (by rfl) ?_; try simp only [Act.put, List.setIfInBounds_toArray, List.set_cons_zero, List.set_cons_succ])
     | (refine mix_skipm rfl (by rfl) ?_; try simp only [Act.put, List.setIfInBounds_toArray, List.set_cons_zero, List.set_cons_succ])
     | (refine mix_take (v := ?_) rfl (by rfl) ?_ ?_; rotate_left; (· intro w' hSw; unfold c7S at hSw; go_simp; (try with_reducible rfl)); rotate_right; try simp only [Act.put, List.setIfInBounds_toArray, List.set_cons_zero, List.set_cons_succ]))
    refine mix_done ?_
    clear ya0 yb0 ya1 yb1 ya2 yb2 ya3 yb3 ya4 yb4 ya5 yb5 ya6 yb6 ya7 yb7 ya8 yb8 yc0 yd0 yc1 yd1 yc2 yd2 yl8 yl9 hs7
    obtain ⟨wF, hwF⟩ : ∃ y, y = ((((((((((((wE.setCell ⟨b8, 0, none⟩ (.int .i64 x.cycle)).setCell ⟨b8, 1, none⟩ (.int .i64 x.fr)).setCell ⟨b8, 2, none⟩ (.int .i64 x.te)).setCell ⟨b8, 3, none⟩ (.int .i64 x.due)).setCell ⟨b8, 4, none⟩ (.slice al x.lines.length cl2)).setCell ⟨b8, 5, none⟩ (.int .i64 x.total)).setCell ⟨b8, 6, none⟩ (.int .i64 x.credit)).setCell ⟨b8, 7, none⟩ (.int .i64 x.min)).setCell ⟨b8, 8, none⟩ (.bool x.grace)).setCell ⟨b9, 0, none⟩ (.slice ab2 q.bal.length cb2)).setCell ⟨b9, 1, none⟩ (.int .i64 q.cr)).setCell ⟨b9, 2, none⟩ (.int .i64 q.du)) := ⟨_, rfl⟩
    rw [← hwF] at hb8F hb9' kEF hlnF hbnF ⊢
    clear hwF
    have Hn8 := Lib.hid hn8
    clear hn8
    have hr7 := Hr4.out.keep0 Hk7.out
    have hrF := hr7.keep0 kEF
    have b19 := cell_of_cells hrF.blk 19
    have hnil : ∀ w : World, (binOp .neq 73 .nilFunc .nilFunc).run Try.prog w = .ok (.bool false) w := fun _ => by kernel_rfl
    rcases D with _ | ⟨x', q'⟩
    ·have hC' := HC.out
     simp only at hC'
     subst hC'
     have hcv := Hcv.out
     simp only [cloVal, Prod.mk.injEq] at hcv
     obtain ⟨rfl, rfl, rfl⟩ := hcv
     obtain ⟨Hb8F, Hb9', KEF, HlnF, HbnF, Hr7, HrF, Hnil, HolE⟩ := hid9 hb8F hb9' kEF hlnF hbnF hr7 hrF hnil holE; clear holE hnil hrF hr7 hbnF hlnF kEF hb9' hb8F; have HobE := Lib.hid hobE; clear hobE
     go_wp2
     go_ret
     exact ⟨rfl, HrF.out⟩
    ·have hC' := HC.out
     simp only at hC'
     have hcv := Hcv.out
     simp only [cloVal, Prod.mk.injEq] at hcv
     obtain ⟨rfl, rfl, rfl⟩ := hcv
     obtain ⟨hql, _⟩ := closeR_ok Hz.out Hpr.out (by rw [HVl.out]; exact H.out.nb.symm) (List.all_eq_true.2 fun y hy => (moneyP_iff y).2 (HVb.out y hy)) HD.out
     have hqn : x'.lines.length = x'.lines.length := rfl
     rw [H.out.nb] at hql
     rw [hql] at hbnF hb9' hobE ⊢
     have u10 := (heap_setCell_same _ _ 10 _ _ (.slice ab2 n cb2) hrF.blk).trans rfl
     have u11 := (heap_setCell_same _ _ 11 _ _ (.int .i64 q'.cr) u10).trans rfl
     have u12 := (heap_setCell_same _ _ 12 _ _ (.int .i64 q'.du) u11).trans rfl
     have kB : Keeps (fun i => i = B) wF (((wF.setCell ⟨B, 10, none⟩ (.slice ab2 n cb2)).setCell ⟨B, 11, none⟩ (.int .i64 q'.cr)).setCell ⟨B, 12, none⟩ (.int .i64 q'.du)) := ((Keeps.setCell (S := fun i => i = B) _ _ _ rfl).trans (Keeps.setCell _ _ _ (.inl rfl))).trans (Keeps.setCell _ _ _ (.inl rfl))
     have hupd := hr7.upd kEF kB u12 hbnF hrF.rts hql Hr4.out.nr (.inr hobE) (.inl rfl)
     have hB8 : ¬ b8 = B := fun e => by
      have h1 := hb8F
      rw [e, hrF.blk] at h1
      injection h1 with h1
      injection h1 with _ h1 _
      exact absurd h1 (by decide)
     have hb8G := box_old hb8F kB hB8
     have hlnG := kB.row hlnF (fun i hi e => by have e' : i = B := e; subst e'; exact ownsRow_ne hlnF hrF.blk (by decide) hi)
     have p0 := cell_of_cells hb9' 0
     have p1 := cell_of_cells hb9' 1
     have p2 := cell_of_cells hb9' 2
     have pl := lt_of_block hb9'
     have b10 := cell_of_cells hrF.blk 10
     have b11 := cell_of_cells hrF.blk 11
     have b12 := cell_of_cells hrF.blk 12
     have f10 := free_of_cells hrF.blk 10
     have f11 := free_of_cells hrF.blk 11
     have f12 := free_of_cells hrF.blk 12
     have bl2 := lt_of_block hrF.blk
     obtain ⟨W12, hW12⟩ : ∃ y, y = (((wF.setCell ⟨B, 10, none⟩ (.slice ab2 n cb2)).setCell ⟨B, 11, none⟩ (.int .i64 q'.cr)).setCell ⟨B, 12, none⟩ (.int .i64 q'.du)) := ⟨_, rfl⟩
     rw [← hW12] at hupd hb8G hlnG
     have hS13 := r13S.keep (r13S.of hupd.blk rfl hb8G) (Keeps.drew (S := fun _ => False) _) (by simp) (by simp)
     have holX : Own w0 X (.slice al x'.lines.length cl2) := hr7.ownN holE
     obtain ⟨Hb8F, Hb9', KEF, HlnF, HbnF, Hr7, HrF, HolE, HobE⟩ := hid9 hb8F hb9' kEF hlnF hbnF hr7 hrF holE hobE; clear hobE holE hrF hr7 hbnF hlnF kEF hb9' hb8F; obtain ⟨Hql, Hqn, U10, U11, U12, KB, Hupd, HB8, Hb8G⟩ := hid9 hql hqn u10 u11 u12 kB hupd hB8 hb8G; clear hb8G hB8 hupd kB u12 u11 u10 hqn hql; obtain ⟨HlnG, HS13, HolX, HC'⟩ := hid4 hlnG hS13 holX hC'; clear hC' holX hS13 hlnG
     go_wp2_with fail
     rw [← hW12]
     clear hW12 p0 p1 p2 pl b10 b11 b12 f10 f11 f12 bl2 b19 hnil
     refine wp_region_mixy (r13S B b8 (.slice av m cv) x'.cycle x'.fr x'.te x'.due (.slice al x'.lines.length cl2) x'.total x'.credit x'.min x'.grace) 10 (.take 0 (.take 1 (.take 2 (.take 3 (.take 4 (.take 5 (.move 6 (.move 7 (.move 8 (.move 9 (.move 10 .done))))))))))) (by kernel_rfl) (by kernel_rfl) ?_ ?_
     ·exact HS13.out
     intro w13 hs13 hk13
     repeat (first
      | (refine mix_skip rfl (by rfl) ?_; try simp only [Act.put, List.setIfInBounds_toArray, List.set_cons_zero, List.set_cons_succ])
      | (refine mix_skipm rfl (by rfl) ?_; try simp only [Act.put, List.setIfInBounds_toArray, List.set_cons_zero, List.set_cons_succ])
      | (refine mix_take (v := ?_) rfl (by rfl) ?_ ?_; rotate_left; (· intro w' hSw; unfold r13S at hSw; go_simp; (try with_reducible rfl)); rotate_right; try simp only [Act.put, List.setIfInBounds_toArray, List.set_cons_zero, List.set_cons_succ]))
     refine mix_move rfl (fun K hK => ?_)
     go_simp
     refine hK.out _ _ (by exact hs13.keep (S := fun _ => False) (Keeps.alloc _ _) (by simp) (by simp)) ?_
     clear hK K
     try simp only [Act.put, List.setIfInBounds_toArray, List.set_cons_zero, List.set_cons_succ]
     repeat (first
      | (refine mix_skip rfl (by rfl) ?_; try simp only [Act.put, List.setIfInBounds_toArray, List.set_cons_zero, List.set_cons_succ])
      | (refine mix_skipm rfl (by rfl) ?_; try simp only [Act.put, List.setIfInBounds_toArray, List.set_cons_zero, List.set_cons_succ])
      | (refine mix_take (v := ?_) rfl (by rfl) ?_ ?_; rotate_left; (· intro w' hSw; unfold r13S at hSw; go_simp; (try with_reducible rfl)); rotate_right; try simp only [Act.put, List.setIfInBounds_toArray, List.set_cons_zero, List.set_cons_succ]))
     have hk13a := hk13.nt (Keeps.alloc w13 (.cells (SV.cells ⟨x', al, cl2⟩).toArray 49))
     have hrow13 := (Hupd.out.keep0 hk13a).out
     rw [Hmm.out] at hrow13
     refine mix_move rfl (fun K hK => ?_)
     refine step_append_row rfl (.tmp 107) (.tmp 109) 33 rfl 0 49 i0 _ 9 88 Try.underlying33 Hi.out Hi0.out Hi1.out Hi2.out rfl (by decide) (.slice av m cv) m _ rfl hrow13 _ 1 _ rfl (Reads.litAt _ _ _ 9 1 _ (by first | rfl | simp) rfl) (by simp [Value.oneCell']) (by unfold maxLen; omega) (by omega) (Nat.zero_le _) ?_
     intro v14 w14 hown14 hk14 hf14
     obtain ⟨a14, c14, rfl, _, _⟩ := ownsRow_shape hown14
     have hadd := Hupd.out.addOut (x := ⟨x', al, cl2⟩) hk13a hk14 (by rw [Hmm.out, List.flatMap_append]; exact hown14) (HlnG.out.of_keeps hk13a) HolX.out hf14
     have h14b := box_old (Hupd.out.keep0 hk13a).blk hk14 (fun e => ownsRow_ne hrow13 (Hupd.out.keep0 hk13a).blk (by decide) e)
     have hb8n : W.heap.size ≤ b8 := by have h1 := Hk4w.out.size; have h2 := Hk7.out.size; have h3 := Hn8.out; omega
     have h14s : ¬ (Value.slice av m cv).ownBlock = some b8 := fun e => by have := own_lt H.out.out e; omega
     have o16 := cell_of_cells h14b 16
     have of16 := free_of_cells h14b 16
     have ol16 := lt_of_block h14b
     refine hK.out _ _ (by exact (hs13.keep (S := fun _ => False) (Keeps.alloc _ _) (by simp) (by simp)).keep hk14 (fun e => ownsRow_ne hrow13 (Hupd.out.keep0 hk13a).blk (by decide) e) h14s) ?_
     clear hK K
     try simp only [Act.put, List.setIfInBounds_toArray, List.set_cons_zero, List.set_cons_succ]
     obtain ⟨Hk13a, Hrow13, Hown14, Hk14, Hadd, H14b, Hb8n, H14s, Hk13⟩ := hid9 hk13a hrow13 hown14 hk14 hadd h14b hb8n h14s hk13; clear hk13 h14s hb8n h14b hadd hk14 hown14 hrow13 hk13a
     clear hs13 hf14
     repeat (first
      | (refine mix_takem (v := ?_) rfl (by rfl) ?_ ?_; rotate_left; (· intro w' hSw; unfold r13S at hSw; go_simp; (try with_reducible rfl)); rotate_right; try simp only [Act.put, List.setIfInBounds_toArray, List.set_cons_zero, List.set_cons_succ]))
     refine mix_last rfl (fun K hK => ?_)
     go_simp
     refine hK.out _ _ ?_
     clear hK K
     try simp only [Act.put, List.setIfInBounds_toArray, List.set_cons_zero, List.set_cons_succ]
     refine mix_done ?_
     clear o16 of16 ol16
     have hfr := runFresh_any Hadd.out (by omega)
     have Hfr := Lib.hid hfr
     clear hfr
     go_wp2_with fail
     refine Hfr.out.mono ?_
     rintro e w16 ⟨rfl, a16, b16', hr16⟩
     have hCC := HC'.out
     subst hCC
     have Hr16 := Lib.hid hr16; clear hr16
     go_wp2
     go_ret
     exact ⟨rfl, _, _, _, _, _, Hr16.out⟩
   ·skip
    refine mix_move rfl (fun K hK => ?_)
    go_simp
    refine hK.out _ _ (by exact hs7.keep (Keeps.nt (Keeps.nt (Keeps.refl (fun _ => False) w7) (Keeps.alloc (S := fun _ => False) (w7) (.cells #[.slice none 0 0, .int .i64 0, .int .i64 0] 32))) (Keeps.alloc _ _))) ?_
    clear hK K
    try simp only [Act.put, List.setIfInBounds_toArray, List.set_cons_zero, List.set_cons_succ]
    refine mix_move rfl (fun K hK => ?_)
    go_simp
    go_at_call 62
    ((with_reducible refine (Hclo.out _ (Hk7.out.nt (Keeps.nt (Keeps.nt (Keeps.refl (fun _ => False) w7) (Keeps.alloc (S := fun _ => False) (w7) (.cells #[.slice none 0 0, .int .i64 0, .int .i64 0] 32))) (Keeps.alloc (S := fun _ => False) ((w7).alloc (.cells #[.slice none 0 0, .int .i64 0, .int .i64 0] 32)) (.cells #[.int .i64 0, .int .i64 0, .int .i64 0, .int .i64 0, .slice none 0 0, .int .i64 0, .int .i64 0, .int .i64 0, .bool false] 49))))).mono ?_); rintro e w5 hpost)
    obtain ⟨al, cl2, ab2, cb2, rfl, hln, hbn2, hk5, hol, hob⟩ := ClosePost.uni hpost Hcv.out
    clear hpost
    dsimp only
    refine hK.out _ _ (by exact hs7.keep (Keeps.nt (Keeps.nt (Keeps.nt (Keeps.refl (fun _ => False) w7) (Keeps.alloc (S := fun _ => False) (w7) (.cells #[.slice none 0 0, .int .i64 0, .int .i64 0] 32))) (Keeps.alloc (S := fun _ => False) ((w7).alloc (.cells #[.slice none 0 0, .int .i64 0, .int .i64 0] 32)) (.cells #[.int .i64 0, .int .i64 0, .int .i64 0, .int .i64 0, .slice none 0 0, .int .i64 0, .int .i64 0, .int .i64 0, .bool false] 49))) hk5)) ?_
    clear hK K
    try simp only [Act.put, List.setIfInBounds_toArray, List.set_cons_zero, List.set_cons_succ]
    repeat (first
     | (refine mix_skip rfl (by rfl) ?_; try simp only [Act.put, List.setIfInBounds_toArray, List.set_cons_zero, List.set_cons_succ])
     | (refine mix_skipm rfl (by rfl) ?_; try simp only [Act.put, List.setIfInBounds_toArray, List.set_cons_zero, List.set_cons_succ])
     | (refine mix_take (v := ?_) rfl (by rfl) ?_ ?_; rotate_left; (· intro w' hSw; unfold c7S at hSw; go_simp; (try with_reducible rfl)); rotate_right; try simp only [Act.put, List.setIfInBounds_toArray, List.set_cons_zero, List.set_cons_succ]))
    obtain ⟨wE, hwE⟩ : ∃ x, x = w5 := ⟨_, rfl⟩
    have k7E : Keeps (fun _ => False) w7 wE := by rw [hwE]; exact (Keeps.nt (Keeps.nt (Keeps.nt (Keeps.refl (fun _ => False) w7) (Keeps.alloc (S := fun _ => False) (w7) (.cells #[.slice none 0 0, .int .i64 0, .int .i64 0] 32))) (Keeps.alloc (S := fun _ => False) ((w7).alloc (.cells #[.slice none 0 0, .int .i64 0, .int .i64 0] 32)) (.cells #[.int .i64 0, .int .i64 0, .int .i64 0, .int .i64 0, .slice none 0 0, .int .i64 0, .int .i64 0, .int .i64 0, .bool false] 49))) hk5)
    have hb8 : wE.heap[w7.heap.size + 1]? = some (.cells #[.int .i64 0, .int .i64 0, .int .i64 0, .int .i64 0, .slice none 0 0, .int .i64 0, .int .i64 0, .int .i64 0, .bool false] 49 (0, 0)) := by rw [hwE]; exact box_old (halloc_at2 _ _ (by simp)) hk5 (by simp)
    have hb9 : wE.heap[w7.heap.size]? = some (.cells #[.slice none 0 0, .int .i64 0, .int .i64 0] 32 (0, 0)) := by rw [hwE]; exact box_old (box_alloc (heap_alloc_new (w7) _) _) hk5 (by simp)
    have k5E : Keeps (fun _ => False) w5 wE := by rw [hwE]; exact (Keeps.refl (fun _ => False) w5)
    have hlnE := hln.of_keeps k5E
    have hbnE := hbn2.of_keeps k5E
    have hs5 := hk5.size
    try simp at hs5
    have holE : ∀ b, (Value.slice al x.lines.length cl2).ownBlock = some b → w7.heap.size ≤ b := fun b hb => by have h1 := hol b hb; have h2 := ((Keeps.nt (Keeps.nt (Keeps.refl (fun _ => False) w7) (Keeps.alloc (S := fun _ => False) (w7) (.cells #[.slice none 0 0, .int .i64 0, .int .i64 0] 32))) (Keeps.alloc (S := fun _ => False) ((w7).alloc (.cells #[.slice none 0 0, .int .i64 0, .int .i64 0] 32)) (.cells #[.int .i64 0, .int .i64 0, .int .i64 0, .int .i64 0, .slice none 0 0, .int .i64 0, .int .i64 0, .int .i64 0, .bool false] 49)))).size; omega
    have hobE : ∀ b, (Value.slice ab2 q.bal.length cb2).ownBlock = some b → w7.heap.size ≤ b := fun b hb => by have h1 := hob b hb; have h2 := ((Keeps.nt (Keeps.nt (Keeps.refl (fun _ => False) w7) (Keeps.alloc (S := fun _ => False) (w7) (.cells #[.slice none 0 0, .int .i64 0, .int .i64 0] 32))) (Keeps.alloc (S := fun _ => False) ((w7).alloc (.cells #[.slice none 0 0, .int .i64 0, .int .i64 0] 32)) (.cells #[.int .i64 0, .int .i64 0, .int .i64 0, .int .i64 0, .slice none 0 0, .int .i64 0, .int .i64 0, .int .i64 0, .bool false] 49)))).size; omega
    rw [← hwE]
    obtain ⟨b8, hb8e⟩ : ∃ x, x = w7.heap.size + 1 := ⟨_, rfl⟩
    obtain ⟨b9, hb9e⟩ : ∃ x, x = w7.heap.size := ⟨_, rfl⟩
    have hne : ¬ b8 = b9 := by rw [hb8e, hb9e]; omega
    have hn8 : w7.heap.size ≤ b8 := by rw [hb8e]; omega
    have hn9 : w7.heap.size ≤ b9 := by rw [hb9e]; omega
    rw [← hb8e] at hb8 ⊢
    rw [← hb9e] at hb9 ⊢
    clear hb8e hb9e hwE hln hbn2 hk5 hol hob k5E hs5
    have ya0 := cell_of_cells hb8 0
    have yb0 := free_of_cells hb8 0
    have ya1 := cell_of_cells hb8 1
    have yb1 := free_of_cells hb8 1
    have ya2 := cell_of_cells hb8 2
    have yb2 := free_of_cells hb8 2
    have ya3 := cell_of_cells hb8 3
    have yb3 := free_of_cells hb8 3
    have ya4 := cell_of_cells hb8 4
    have yb4 := free_of_cells hb8 4
    have ya5 := cell_of_cells hb8 5
    have yb5 := free_of_cells hb8 5
    have ya6 := cell_of_cells hb8 6
    have yb6 := free_of_cells hb8 6
    have ya7 := cell_of_cells hb8 7
    have yb7 := free_of_cells hb8 7
    have ya8 := cell_of_cells hb8 8
    have yb8 := free_of_cells hb8 8
    have yc0 := cell_of_cells hb9 0
    have yd0 := free_of_cells hb9 0
    have yc1 := cell_of_cells hb9 1
    have yd1 := free_of_cells hb9 1
    have yc2 := cell_of_cells hb9 2
    have yd2 := free_of_cells hb9 2
    have yl8 := lt_of_block hb8
    have yl9 := lt_of_block hb9
    have hne2 : ¬ b9 = b8 := fun e => hne e.symm
    have hl8 : ∀ b, (Value.slice al x.lines.length cl2).ownBlock = some b → ¬ b = b8 := fun b hb e => by subst e; exact ownsRow_ne hlnE hb8 (by decide) hb
    have hl9 : ∀ b, (Value.slice al x.lines.length cl2).ownBlock = some b → ¬ b = b9 := fun b hb e => by subst e; exact ownsRow_ne hlnE hb9 (by decide) hb
    have hq8 : ∀ b, (Value.slice ab2 q.bal.length cb2).ownBlock = some b → ¬ b = b8 := fun b hb e => by subst e; exact ownsRow_ne hbnE hb8 (by decide) hb
    have hq9 : ∀ b, (Value.slice ab2 q.bal.length cb2).ownBlock = some b → ¬ b = b9 := fun b hb e => by subst e; exact ownsRow_ne hbnE hb9 (by decide) hb
    obtain ⟨hb8', k8⟩ := store9 hb8 (.int .i64 x.cycle) (.int .i64 x.fr) (.int .i64 x.te) (.int .i64 x.due) (.slice al x.lines.length cl2) (.int .i64 x.total) (.int .i64 x.credit) (.int .i64 x.min) (.bool x.grace)
    obtain ⟨hb9', k9⟩ := store3 (box_old hb9 k8 hne2) (.slice ab2 q.bal.length cb2) (.int .i64 q.cr) (.int .i64 q.du)
    have hb8F := box_old hb8' k9 (fun e => hne e)
    have kE8 := k7E.trans (k8.mono fun i _ e => .inr (by have e' : i = b8 := e; omega))
    have kEF := kE8.trans (k9.mono fun i _ e => .inr (by have e' : i = b9 := e; omega))
    have hlnF := k9.row (k8.row hlnE hl8) hl9
    have hbnF := k9.row (k8.row hbnE hq8) hq9
    have hsA := hs7.keep kE8
    have hsB := hs7.keep kEF
    obtain ⟨Hb8, Hb9, Hb8', K8, K9, KE8, Hl8, Hl9, Hq8⟩ := hid9 hb8 hb9 hb8' k8 k9 kE8 hl8 hl9 hq8; clear hq8 hl9 hl8 kE8 k9 k8 hb8' hb9 hb8; obtain ⟨Hq9, HlnE, HbnE, HsA⟩ := hid4 hq9 hlnE hbnE hsA; clear hsA hbnE hlnE hq9
    refine mix_move rfl (fun K hK => ?_)
    go_simp
    refine hK.out _ _ (by exact HsA.out) ?_
    clear hK K
    try simp only [Act.put, List.setIfInBounds_toArray, List.set_cons_zero, List.set_cons_succ]
    repeat (first
     | (refine mix_skip rfl (by rfl) ?_; try simp only [Act.put, List.setIfInBounds_toArray, List.set_cons_zero, List.set_cons_succ])
     | (refine mix_skipm rfl (by rfl) ?_; try simp only [Act.put, List.setIfInBounds_toArray, List.set_cons_zero, List.set_cons_succ])
     | (refine mix_take (v := ?_) rfl (by rfl) ?_ ?_; rotate_left; (· intro w' hSw; unfold c7S at hSw; go_simp; (try with_reducible rfl)); rotate_right; try simp only [Act.put, List.setIfInBounds_toArray, List.set_cons_zero, List.set_cons_succ]))
    have HsB := Lib.hid hsB
    clear hsB
    refine mix_move rfl (fun K hK => ?_)
    go_simp
    refine hK.out _ _ (by exact HsB.out) ?_
    clear hK K
    try simp only [Act.put, List.setIfInBounds_toArray, List.set_cons_zero, List.set_cons_succ]
    repeat (first
     | (refine mix_skip rfl (by rfl) ?_; try simp only [Act.put, List.setIfInBounds_toArray, List.set_cons_zero, List.set_cons_succ])
     | (refine mix_skipm rfl (by rfl) ?_; try simp only [Act.put, List.setIfInBounds_toArray, List.set_cons_zero, List.set_cons_succ])
     | (refine mix_take (v := ?_) rfl (by rfl) ?_ ?_; rotate_left; (· intro w' hSw; unfold c7S at hSw; go_simp; (try with_reducible rfl)); rotate_right; try simp only [Act.put, List.setIfInBounds_toArray, List.set_cons_zero, List.set_cons_succ]))
    refine mix_done ?_
    clear ya0 yb0 ya1 yb1 ya2 yb2 ya3 yb3 ya4 yb4 ya5 yb5 ya6 yb6 ya7 yb7 ya8 yb8 yc0 yd0 yc1 yd1 yc2 yd2 yl8 yl9 hs7
    obtain ⟨wF, hwF⟩ : ∃ y, y = ((((((((((((wE.setCell ⟨b8, 0, none⟩ (.int .i64 x.cycle)).setCell ⟨b8, 1, none⟩ (.int .i64 x.fr)).setCell ⟨b8, 2, none⟩ (.int .i64 x.te)).setCell ⟨b8, 3, none⟩ (.int .i64 x.due)).setCell ⟨b8, 4, none⟩ (.slice al x.lines.length cl2)).setCell ⟨b8, 5, none⟩ (.int .i64 x.total)).setCell ⟨b8, 6, none⟩ (.int .i64 x.credit)).setCell ⟨b8, 7, none⟩ (.int .i64 x.min)).setCell ⟨b8, 8, none⟩ (.bool x.grace)).setCell ⟨b9, 0, none⟩ (.slice ab2 q.bal.length cb2)).setCell ⟨b9, 1, none⟩ (.int .i64 q.cr)).setCell ⟨b9, 2, none⟩ (.int .i64 q.du)) := ⟨_, rfl⟩
    rw [← hwF] at hb8F hb9' kEF hlnF hbnF ⊢
    clear hwF
    have Hn8 := Lib.hid hn8
    clear hn8
    have hr7 := Hr4.out.keep0 Hk7.out
    have hrF := hr7.keep0 kEF
    have b19 := cell_of_cells hrF.blk 19
    have hnil : ∀ w : World, (binOp .neq 73 .nilFunc .nilFunc).run Try.prog w = .ok (.bool false) w := fun _ => by kernel_rfl
    rcases D with _ | ⟨x', q'⟩
    ·have hC' := HC.out
     simp only at hC'
     subst hC'
     have hcv := Hcv.out
     simp only [cloVal, Prod.mk.injEq] at hcv
     obtain ⟨rfl, rfl, rfl⟩ := hcv
     obtain ⟨Hb8F, Hb9', KEF, HlnF, HbnF, Hr7, HrF, Hnil, HolE⟩ := hid9 hb8F hb9' kEF hlnF hbnF hr7 hrF hnil holE; clear holE hnil hrF hr7 hbnF hlnF kEF hb9' hb8F; have HobE := Lib.hid hobE; clear hobE
     go_wp2
     go_ret
     exact ⟨rfl, HrF.out⟩
    ·have hC' := HC.out
     simp only at hC'
     have hcv := Hcv.out
     simp only [cloVal, Prod.mk.injEq] at hcv
     obtain ⟨rfl, rfl, rfl⟩ := hcv
     obtain ⟨hql, _⟩ := closeR_ok Hz.out Hpr.out (by rw [HVl.out]; exact H.out.nb.symm) (List.all_eq_true.2 fun y hy => (moneyP_iff y).2 (HVb.out y hy)) HD.out
     have hqn : x'.lines.length = x'.lines.length := rfl
     rw [H.out.nb] at hql
     rw [hql] at hbnF hb9' hobE ⊢
     have u10 := (heap_setCell_same _ _ 10 _ _ (.slice ab2 n cb2) hrF.blk).trans rfl
     have u11 := (heap_setCell_same _ _ 11 _ _ (.int .i64 q'.cr) u10).trans rfl
     have u12 := (heap_setCell_same _ _ 12 _ _ (.int .i64 q'.du) u11).trans rfl
     have kB : Keeps (fun i => i = B) wF (((wF.setCell ⟨B, 10, none⟩ (.slice ab2 n cb2)).setCell ⟨B, 11, none⟩ (.int .i64 q'.cr)).setCell ⟨B, 12, none⟩ (.int .i64 q'.du)) := ((Keeps.setCell (S := fun i => i = B) _ _ _ rfl).trans (Keeps.setCell _ _ _ (.inl rfl))).trans (Keeps.setCell _ _ _ (.inl rfl))
     have hupd := hr7.upd kEF kB u12 hbnF hrF.rts hql Hr4.out.nr (.inr hobE) (.inl rfl)
     have hB8 : ¬ b8 = B := fun e => by
      have h1 := hb8F
      rw [e, hrF.blk] at h1
      injection h1 with h1
      injection h1 with _ h1 _
      exact absurd h1 (by decide)
     have hb8G := box_old hb8F kB hB8
     have hlnG := kB.row hlnF (fun i hi e => by have e' : i = B := e; subst e'; exact ownsRow_ne hlnF hrF.blk (by decide) hi)
     have p0 := cell_of_cells hb9' 0
     have p1 := cell_of_cells hb9' 1
     have p2 := cell_of_cells hb9' 2
     have pl := lt_of_block hb9'
     have b10 := cell_of_cells hrF.blk 10
     have b11 := cell_of_cells hrF.blk 11
     have b12 := cell_of_cells hrF.blk 12
     have f10 := free_of_cells hrF.blk 10
     have f11 := free_of_cells hrF.blk 11
     have f12 := free_of_cells hrF.blk 12
     have bl2 := lt_of_block hrF.blk
     obtain ⟨W12, hW12⟩ : ∃ y, y = (((wF.setCell ⟨B, 10, none⟩ (.slice ab2 n cb2)).setCell ⟨B, 11, none⟩ (.int .i64 q'.cr)).setCell ⟨B, 12, none⟩ (.int .i64 q'.du)) := ⟨_, rfl⟩
     rw [← hW12] at hupd hb8G hlnG
     have hS13 := r13S.keep (r13S.of hupd.blk rfl hb8G) (Keeps.drew (S := fun _ => False) _) (by simp) (by simp)
     have holX : Own w0 X (.slice al x'.lines.length cl2) := hr7.ownN holE
     obtain ⟨Hb8F, Hb9', KEF, HlnF, HbnF, Hr7, HrF, HolE, HobE⟩ := hid9 hb8F hb9' kEF hlnF hbnF hr7 hrF holE hobE; clear hobE holE hrF hr7 hbnF hlnF kEF hb9' hb8F; obtain ⟨Hql, Hqn, U10, U11, U12, KB, Hupd, HB8, Hb8G⟩ := hid9 hql hqn u10 u11 u12 kB hupd hB8 hb8G; clear hb8G hB8 hupd kB u12 u11 u10 hqn hql; obtain ⟨HlnG, HS13, HolX, HC'⟩ := hid4 hlnG hS13 holX hC'; clear hC' holX hS13 hlnG
     go_wp2_with fail
     rw [← hW12]
     clear hW12 p0 p1 p2 pl b10 b11 b12 f10 f11 f12 bl2 b19 hnil
     refine wp_region_mixy (r13S B b8 (.slice av m cv) x'.cycle x'.fr x'.te x'.due (.slice al x'.lines.length cl2) x'.total x'.credit x'.min x'.grace) 10 (.take 0 (.take 1 (.take 2 (.take 3 (.take 4 (.take 5 (.move 6 (.move 7 (.move 8 (.move 9 (.move 10 .done))))))))))) (by kernel_rfl) (by kernel_rfl) ?_ ?_
     ·exact HS13.out
     intro w13 hs13 hk13
     repeat (first
      | (refine mix_skip rfl (by rfl) ?_; try simp only [Act.put, List.setIfInBounds_toArray, List.set_cons_zero, List.set_cons_succ])
      | (refine mix_skipm rfl (by rfl) ?_; try simp only [Act.put, List.setIfInBounds_toArray, List.set_cons_zero, List.set_cons_succ])
      | (refine mix_take (v := ?_) rfl (by rfl) ?_ ?_; rotate_left; (· intro w' hSw; unfold r13S at hSw; go_simp; (try with_reducible rfl)); rotate_right; try simp only [Act.put, List.setIfInBounds_toArray, List.set_cons_zero, List.set_cons_succ]))
     refine mix_move rfl (fun K hK => ?_)
     go_simp
     refine hK.out _ _ (by exact hs13.keep (S := fun _ => False) (Keeps.alloc _ _) (by simp) (by simp)) ?_
     clear hK K
     try simp only [Act.put, List.setIfInBounds_toArray, List.set_cons_zero, List.set_cons_succ]
     repeat (first
      | (refine mix_skip rfl (by rfl) ?_; try simp only [Act.put, List.setIfInBounds_toArray, List.set_cons_zero, List.set_cons_succ])
      | (refine mix_skipm rfl (by rfl) ?_; try simp only [Act.put, List.setIfInBounds_toArray, List.set_cons_zero, List.set_cons_succ])
      | (refine mix_take (v := ?_) rfl (by rfl) ?_ ?_; rotate_left; (· intro w' hSw; unfold r13S at hSw; go_simp; (try with_reducible rfl)); rotate_right; try simp only [Act.put, List.setIfInBounds_toArray, List.set_cons_zero, List.set_cons_succ]))
     have hk13a := hk13.nt (Keeps.alloc w13 (.cells (SV.cells ⟨x', al, cl2⟩).toArray 49))
     have hrow13 := (Hupd.out.keep0 hk13a).out
     rw [Hmm.out] at hrow13
     refine mix_move rfl (fun K hK => ?_)
     refine step_append_row rfl (.tmp 107) (.tmp 109) 33 rfl 0 49 i0 _ 9 88 Try.underlying33 Hi.out Hi0.out Hi1.out Hi2.out rfl (by decide) (.slice av m cv) m _ rfl hrow13 _ 1 _ rfl (Reads.litAt _ _ _ 9 1 _ (by first | rfl | simp) rfl) (by simp [Value.oneCell']) (by unfold maxLen; omega) (by omega) (Nat.zero_le _) ?_
     intro v14 w14 hown14 hk14 hf14
     obtain ⟨a14, c14, rfl, _, _⟩ := ownsRow_shape hown14
     have hadd := Hupd.out.addOut (x := ⟨x', al, cl2⟩) hk13a hk14 (by rw [Hmm.out, List.flatMap_append]; exact hown14) (HlnG.out.of_keeps hk13a) HolX.out hf14
     have h14b := box_old (Hupd.out.keep0 hk13a).blk hk14 (fun e => ownsRow_ne hrow13 (Hupd.out.keep0 hk13a).blk (by decide) e)
     have hb8n : W.heap.size ≤ b8 := by have h1 := Hk4w.out.size; have h2 := Hk7.out.size; have h3 := Hn8.out; omega
     have h14s : ¬ (Value.slice av m cv).ownBlock = some b8 := fun e => by have := own_lt H.out.out e; omega
     have o16 := cell_of_cells h14b 16
     have of16 := free_of_cells h14b 16
     have ol16 := lt_of_block h14b
     refine hK.out _ _ (by exact (hs13.keep (S := fun _ => False) (Keeps.alloc _ _) (by simp) (by simp)).keep hk14 (fun e => ownsRow_ne hrow13 (Hupd.out.keep0 hk13a).blk (by decide) e) h14s) ?_
     clear hK K
     try simp only [Act.put, List.setIfInBounds_toArray, List.set_cons_zero, List.set_cons_succ]
     obtain ⟨Hk13a, Hrow13, Hown14, Hk14, Hadd, H14b, Hb8n, H14s, Hk13⟩ := hid9 hk13a hrow13 hown14 hk14 hadd h14b hb8n h14s hk13; clear hk13 h14s hb8n h14b hadd hk14 hown14 hrow13 hk13a
     clear hs13 hf14
     repeat (first
      | (refine mix_takem (v := ?_) rfl (by rfl) ?_ ?_; rotate_left; (· intro w' hSw; unfold r13S at hSw; go_simp; (try with_reducible rfl)); rotate_right; try simp only [Act.put, List.setIfInBounds_toArray, List.set_cons_zero, List.set_cons_succ]))
     refine mix_last rfl (fun K hK => ?_)
     go_simp
     refine hK.out _ _ ?_
     clear hK K
     try simp only [Act.put, List.setIfInBounds_toArray, List.set_cons_zero, List.set_cons_succ]
     refine mix_done ?_
     clear o16 of16 ol16
     have hfr := runFresh_any Hadd.out (by omega)
     have Hfr := Lib.hid hfr
     clear hfr
     go_wp2_with fail
     refine Hfr.out.mono ?_
     rintro e w16 ⟨rfl, a16, b16', hr16⟩
     have hCC := HC'.out
     subst hCC
     have Hr16 := Lib.hid hr16; clear hr16
     go_wp2
     go_ret
     exact ⟨rfl, _, _, _, _, _, Hr16.out⟩
end Go.Proofs.Ythcmpcekmkioaaa
namespace Go.Proofs.Ythcmpcekmkioaaa
open Go.RowKit
structure SpanOk (fr te : Int) : Prop where
 lo : -135140 ≤ fr
 le : fr ≤ te
 hi : te ≤ 2932896
 sh : te ≤ fr + 31
inductive SpanC (day : Int) : Int → List (Int × Int) → Prop
 | last {fr te : Int} : SpanOk fr te → fr ≤ day → day ≤ te → SpanC day fr [(fr, te)]
 | more {fr te : Int} {S : List (Int × Int)} : SpanOk fr te → te < day → SpanC day (te + 1) S → SpanC day fr ((fr, te) :: S)
theorem SpanC.head {day fr : Int} {S : List (Int × Int)} (h : SpanC day fr S) : ∃ te S', S = (fr, te) :: S' ∧ SpanOk fr te ∧ fr ≤ day ∧ (te < day → SpanC day (te + 1) S') := by
 cases h with
 | last h1 h2 h3 => exact ⟨_, _, rfl, h1, h2, fun h => by omega⟩
 | more h1 h2 h3 => exact ⟨_, _, rfl, h1, by have := h1.le; omega, fun _ => h3⟩
theorem find_spans (cd day : Int) : ∀ (f : Nat) (fr : Int), (findW cd day f fr).2 = true → SpanC day fr (findW cd day f fr).1 ∧ (findW cd day f fr).1.length ≤ f := by
 intro f
 induction f with
 | zero => intro fr h; cases h
 | succ f ih =>
  intro fr h
  unfold findW at h ⊢
  split at h
  ·rename_i hl
   rw [if_pos hl]
   have hl2 := hl
   unfold lastE at hl2
   split at hl2
   ·cases hl2
   ·rename_i hc
    split at hl2
    ·cases hl2
    ·rename_i hf
     split at hl2
     ·cases hl2
     ·rename_i ht
      have hf' : -135140 ≤ fr ∧ fr ≤ 2932896 := by omega
      have hge := lastF_ge (fr := fr) (cd := cd) hf'.1 hf'.2 (by omega) (by omega)
      have hok : SpanOk fr (lastF fr cd) := ⟨hf'.1, hge.1, by omega, hge.2⟩
      split at h
      ·rename_i hd
       rw [if_pos hd]
       obtain ⟨h1, h2⟩ := ih _ h
       exact ⟨.more hok hd.1 h1, by simp only [List.length_cons]; omega⟩
      ·rename_i hd
       rw [if_neg hd]
       simp only [Bool.and_eq_true, decide_eq_true_eq] at h
       exact ⟨.last hok h.1 h.2, by simp⟩
  ·cases h
theorem evErr_amt {t : Tm} {e : Ev} (h : evErr t e = 0) : e.kind = 2 → 0 ≤ e.amount ∧ e.amount ≤ 1000000000000000 := by
 intro hk
 unfold evErr at h
 split at h
 ·cases h
 ·split at h
  ·cases h
  ·split at h
   ·cases h
   ·split at h
    ·cases h
    ·rename_i ha
     constructor <;> omega
structure RepOk (t : Tm) (L : List Ev) (td : Int) : Prop where
 tm : t.err = 0
 ev : ∀ x ∈ L, evErr t x = 0
 ln : L.length ≤ 2000
 d0 : t.start ≤ td
 d1 : td ≤ 2932896
 fd : (findW t.cyc td 300 t.start).2 = true
 lt : ∀ x ∈ L, x.day ≤ td
theorem repErr_ok {t : Tm} {L : List Ev} {td : Int} (h : repErr t L td = 0) : RepOk t L td := by
 unfold repErr at h
 split at h
 ·rename_i h1
  split at h
  ·rename_i h2
   split at h
   ·cases h
   ·rename_i h3
    split at h
    ·cases h
    ·rename_i h4
     split at h
     ·cases h
     ·rename_i h5
      split at h
      ·cases h
      ·rename_i h6
       have h5' : ofE t.start t.cyc td = 0 := by omega
       refine ⟨h1, evsErr_ok h2, by omega, by omega, by omega, ?_, fun x hx => ?_⟩
       ·unfold ofE at h5'
        split at h5'
        ·split at h5'
         ·assumption
         ·cases h5'
        ·rename_i hh; exact absurd h5' hh
       ·rcases hb : lateQ td x with _ | _
        ·simp [lateQ] at hb; exact hb
        ·exact absurd (List.any_eq_true.2 ⟨x, hx, hb⟩) h6
  ·rename_i h2; exact absurd h h2
 ·cases h
structure StOk (n : Nat) (s : St) (len : Nat) : Prop where
 pr : s.p.rightB = true
 nb : s.p.bal.length = n
 nr : s.R.length = n
 rt : ∀ x ∈ s.R, 0 ≤ x ∧ x ≤ 10000000
 n0 : s.e0.length = n
 n1 : s.e1.length = n
 m0 : ∀ r ∈ s.e0, r.length = len ∧ ∀ y ∈ r, 0 ≤ y ∧ y ≤ 1000000000000000
 m1 : ∀ r ∈ s.e1, r.length = len ∧ ∀ y ∈ r, 0 ≤ y ∧ y ≤ 10000000
theorem evR_ok (day : Int) : ∀ (M : List Ev) (i : Nat) (p : Ps) (R : List Int), p.rightB = true → (∀ x ∈ R, 0 ≤ x ∧ x ≤ 10000000) → (evR day M i p R).2.2.2 = 0 →
  (evR day M i p R).2.1.rightB = true ∧ (evR day M i p R).2.1.bal.length = p.bal.length ∧ (evR day M i p R).2.2.1.length = R.length ∧ (∀ x ∈ (evR day M i p R).2.2.1, 0 ≤ x ∧ x ≤ 10000000) ∧ i ≤ (evR day M i p R).1 ∧ (evR day M i p R).1 ≤ i + M.length := by
 intro M
 induction M with
 | nil => intro i p R hp hR _; exact ⟨hp, rfl, rfl, hR, Nat.le_refl _, Nat.le_refl _⟩
 | cons e M ih =>
  intro i p R hp hR h
  unfold evR at h ⊢
  split at h
  ·rename_i hd
   rw [if_pos hd]
   split at h
   ·rename_i h0
    rw [if_pos h0]
    obtain ⟨a1, a2, a3, a4⟩ := applyR_ok h0
    obtain ⟨b1, b2, b3, b4, b5, b6⟩ := ih _ _ _ a3 a4 h
    exact ⟨b1, b2.trans a1, b3.trans a2, b4, by omega, by simp only [List.length_cons]; omega⟩
   ·rename_i h0; exact absurd h h0
  ·rename_i hd
   rw [if_neg hd]
   exact ⟨hp, rfl, rfl, hR, Nat.le_refl _, by omega⟩
theorem StOk.ev {n len : Nat} {s : St} (h : StOk n s len) {M : List Ev} (hz : (evR s.day M s.i s.p s.R).2.2.2 = 0) : StOk n (evSt s (evR s.day M s.i s.p s.R)) len := by
 obtain ⟨b1, b2, b3, b4, _, _⟩ := evR_ok s.day M s.i s.p s.R h.pr h.rt hz
 exact ⟨b1, b2.trans h.nb, b3.trans h.nr, b4, h.n0, h.n1, h.m0, h.m1⟩
theorem ext_mem {E : List (List Int)} {V : List Int} {r : List Int} (h : r ∈ List.zipWith (fun r v => r ++ [v]) E V) : ∃ a ∈ E, ∃ v ∈ V, r = a ++ [v] := by
 obtain ⟨k, hk⟩ := List.getElem?_of_mem h
 rw [List.getElem?_zipWith] at hk
 rcases h1 : E[k]? with _ | a
 ·rw [h1] at hk; simp at hk
 ·rcases h2 : V[k]? with _ | v
  ·rw [h1, h2] at hk; simp at hk
  ·rw [h1, h2] at hk
   simp only [Option.some.injEq] at hk
   exact ⟨a, List.mem_of_getElem? h1, v, List.mem_of_getElem? h2, hk.symm⟩
theorem StOk.fin {n len : Nat} {s : St} (h : StOk n s len) : StOk n (endSt s n n) (len + 1) := by
 have e0 : extL s.e0 s.p.bal n = List.zipWith (fun r v => r ++ [v]) s.e0 s.p.bal := extL_full h.nb h.n0
 have e1 : extL s.e1 s.R n = List.zipWith (fun r v => r ++ [v]) s.e1 s.R := extL_full h.nr h.n1
 obtain ⟨hb, _⟩ := right_nums h.pr
 refine ⟨h.pr, h.nb, h.nr, h.rt, ?_, ?_, ?_, ?_⟩
 ·show (extL s.e0 s.p.bal n).length = n
  rw [e0, List.length_zipWith, h.n0, h.nb]; omega
 ·show (extL s.e1 s.R n).length = n
  rw [e1, List.length_zipWith, h.n1, h.nr]; omega
 ·intro r hr
  have hr' : r ∈ extL s.e0 s.p.bal n := hr
  rw [e0] at hr'
  obtain ⟨a, ha, v, hv, rfl⟩ := ext_mem hr'
  obtain ⟨h1, h2⟩ := h.m0 a ha
  refine ⟨by rw [List.length_append, h1]; rfl, fun y hy => ?_⟩
  rcases List.mem_append.1 hy with hy | hy
  ·exact h2 y hy
  ·obtain rfl : y = v := by simpa using hy
   exact hb _ hv
 ·intro r hr
  have hr' : r ∈ extL s.e1 s.R n := hr
  rw [e1] at hr'
  obtain ⟨a, ha, v, hv, rfl⟩ := ext_mem hr'
  obtain ⟨h1, h2⟩ := h.m1 a ha
  refine ⟨by rw [List.length_append, h1]; rfl, fun y hy => ?_⟩
  rcases List.mem_append.1 hy with hy | hy
  ·exact h2 y hy
  ·obtain rfl : y = v := by simpa using hy
   exact h.rt _ hv
theorem StOk.lens {n len : Nat} {s : St} (h : StOk n s len) (hl : len ≤ 40000) : ∀ (k : Nat) (a b : List Int), s.e0[k]? = some a → s.e1[k]? = some b → a.length = b.length ∧ a.length ≤ 40000 := fun k a b ha hb => by
 have h1 := (h.m0 a (List.mem_of_getElem? ha)).1
 have h2 := (h.m1 b (List.mem_of_getElem? hb)).1
 omega
theorem closeS_ok {t : Tm} {L : List Ev} {n len : Nat} {s s' : St} {fr te : Int} (hz : t.err = 0) (hn : t.trs.length = n) (h : StOk n s len) (hc : closeS t L n s fr te = some s') : StOk n s' 0 ∧ s'.out.length = s.out.length + 1 ∧ s'.i = s.i ∧ s'.day = s.day := by
 unfold closeS at hc
 split at hc
 ·cases hc
 ·rename_i V hV
  obtain ⟨v1, v2⟩ := intrO_ok hn h.n0 h.n1 (fun r hr => (h.m0 r hr).2) (fun r hr => (h.m1 r hr).2) hV
  split at hc
  ·cases hc
  ·rename_i x q hx
   simp only [Option.some.injEq] at hc
   subst hc
   obtain ⟨q1, q2⟩ := closeR_ok hz h.pr (by rw [v1]; exact h.nb.symm) (List.all_eq_true.2 fun y hy => (moneyP_iff y).2 (v2 y hy)) hx
   have hrep : ∀ r ∈ List.replicate n ([] : List Int), r = [] := fun r hr => (List.mem_replicate.1 hr).2
   refine ⟨⟨q2, q1.trans h.nb, h.nr, h.rt, by simp, by simp, fun r hr => ?_, fun r hr => ?_⟩, by simp, rfl, rfl⟩
   ·rw [hrep r hr]; simp
   ·rw [hrep r hr]; simp
def walkD (t : Tm) (T : List Ev) (n : Nat) : Nat → List (Int × Int) → St → St × Int
 | 0, _, s => (evSt s (evR s.day (T.drop s.i) s.i s.p s.R), (evR s.day (T.drop s.i) s.i s.p s.R).2.2.2)
 | d + 1, S, s => if (evR s.day (T.drop s.i) s.i s.p s.R).2.2.2 = 0 then
   (match S with
    | [] => (s, 5)
    | (fr, te) :: S' => if te = s.day then (match closeS t T n (endSt (evSt s (evR s.day (T.drop s.i) s.i s.p s.R)) n n) fr te with
      | none => (s, 5)
      | some s2 => walkD t T n d S' { s2 with day := s.day + 1 })
     else walkD t T n d ((fr, te) :: S') { endSt (evSt s (evR s.day (T.drop s.i) s.i s.p s.R)) n n with day := s.day + 1 })
  else (s, (evR s.day (T.drop s.i) s.i s.p s.R).2.2.2)
def st0 (t : Tm) : St := ⟨0, t.start, ⟨List.replicate t.trs.length 0, 0, 0⟩, t.trs.map Tn.rate, List.replicate t.trs.length [], List.replicate t.trs.length [], []⟩
theorem st0_ok {t : Tm} (h : t.err = 0) : StOk t.trs.length (st0 t) 0 := by
 obtain ⟨⟨l0, l1⟩, hr, _⟩ := tm_nums h
 have hrep : ∀ r ∈ List.replicate t.trs.length ([] : List Int), r = [] := fun r hr => (List.mem_replicate.1 hr).2
 refine ⟨?_, by simp [st0], by simp [st0], fun x hx => ?_, by simp [st0], by simp [st0], fun r hr => ?_, fun r hr => ?_⟩
 ·have h1 : ∀ k : Nat, sumI (List.replicate k (0 : Int)) = 0 := fun k => by
   induction k with
   | zero => rfl
   | succ k ih => rw [List.replicate_succ, sumI, ih]; rfl
  have h2 : (List.replicate t.trs.length (0 : Int)).all moneyP = true := List.all_eq_true.2 fun x hx => by rw [(List.mem_replicate.1 hx).2]; rfl
  show Ps.rightB ⟨List.replicate t.trs.length 0, 0, 0⟩ = true
  simp only [Ps.rightB, scanB, h1, h2, List.length_replicate]
  simp [moneyP, l0, l1]
 ·simp only [st0, List.mem_map] at hx
  obtain ⟨y, hy, rfl⟩ := hx
  exact hr y hy
 ·rw [hrep r hr]; simp
 ·rw [hrep r hr]; simp
def walkR (t : Tm) (L : List Ev) (td : Int) : St × Int := if repErr t L td = 0 then walkD t (sortL L) t.trs.length (td - t.start).toNat (allL t.start t.cyc td) (st0 t) else (st0 t, repErr t L td)
end Go.Proofs.Ythcmpcekmkioaaa
