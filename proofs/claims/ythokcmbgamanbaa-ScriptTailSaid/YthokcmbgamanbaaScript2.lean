/- The walks of the script layer: terms. -/
import Derived.Test.YthokcmbgamanbaaScript
namespace Go.Proofs.Ythokcmbgamanbaa
open Go.RowKit
theorem info_tTr : (Try.prog.info? 81).map (fun i => (i.zero, i.size, i.bytes)) = some (some (.agg #[.int .i64 0, .bool false]), 2, 16) := by kernel_rfl
theorem info_tCmd : (Try.prog.info? 34).map (fun i => (i.zero, i.size, i.bytes)) = some (some (.agg #[.int .i64 0, .int .i64 0, .int .i64 0, .int .i64 0, .int .i64 0]), 5, 40) := by kernel_rfl
def zTm (v : Value) : Array Value := #[.int .i64 0, v, .int .i64 0, .int .i64 0, .int .i64 0, .int .i64 0, .int .i64 0]
/-- Whilst terms are read: t's block, its row of tranches, the reader. -/
structure TS (lo : Nat) (w0 w : World) (b : Nat) (B : List Int) (R T : Nat) (C : Array Value) (v : Value) (L : List Tr) (k : Nat) : Prop where
  rd : RdAt lo w b B k
  res : w.heap[R]? = some (.cells (zTm (.slice none 0 0)) 27 (0, 0))
  blk : w.heap[T]? = some (.cells C 27 (0, 0))
  row : w.ownsRow 0 81 2 v L.length (L.flatMap Tr.cells)
  new : ∀ g, v.ownBlock = some g → w0.heap.size ≤ g
  kp : Keeps (fun j => j = b) w0 w
  ord : lo ≤ w0.heap.size ∧ b < w0.heap.size ∧ R = w0.heap.size ∧ T = w0.heap.size + 1
section
variable {lo : Nat} {w0 w w' : World} {b : Nat} {B : List Int} {R T : Nat} {C : Array Value} {v : Value} {L : List Tr} {k : Nat}
theorem TS.num (h : TS lo w0 w b B R T C v L k) (hr : RdAt lo w' b B (k + 1)) (hk : Keeps (fun j => j = b) w w') : TS lo w0 w' b B R T C v L (k + 1) := by
  obtain ⟨o1, o2, o3, o4⟩ := h.ord
  refine ⟨hr, box_old h.res hk (by omega), box_old h.blk hk (by omega), hk.row h.row (fun g hg e => by have := h.new g hg; omega), h.new, h.kp.trans (hk.mono fun _ _ e => .inl e), h.ord⟩
theorem TS.keep {S : Nat → Prop} (h : TS lo w0 w b B R T C v L k) (hk : Keeps S w w') (hS : ∀ j, S j → w0.heap.size + 1 < j ∧ v.ownBlock ≠ some j) : TS lo w0 w' b B R T C v L k := by
  obtain ⟨o1, o2, o3, o4⟩ := h.ord
  refine ⟨h.rd.keeps hk (fun j hj => by have := (hS j hj).1; omega), box_old h.res hk (fun hs => by have := (hS _ hs).1; omega), box_old h.blk hk (fun hs => by have := (hS _ hs).1; omega), hk.row h.row (fun g hg e => (hS g e).2 hg), h.new, h.kp.trans (hk.mono fun j _ hj => by have := (hS j hj).1; right; omega), h.ord⟩
theorem TS.set (h : TS lo w0 w b B R T C v L k) (i : Nat) (x : Value) (hi : (w.setCell ⟨T, i, none⟩ x).heap[T]? = some (.cells (C.setIfInBounds i x) 27 (0, 0))) : TS lo w0 (w.setCell ⟨T, i, none⟩ x) b B R T (C.setIfInBounds i x) v L k := by
  obtain ⟨o1, o2, o3, o4⟩ := h.ord
  have hk : Keeps (fun j => j = T) w (w.setCell ⟨T, i, none⟩ x) := Keeps.setCell _ _ _ rfl
  refine ⟨h.rd.keeps hk (fun j hj => by omega), box_old h.res hk (by omega), hi, ownsRow_setCell_other h.row (ownsRow_ne h.row h.blk (by decide)) _, h.new, h.kp.trans (hk.mono fun j _ hj => by right; omega), h.ord⟩
end
theorem Keeps.set7 {S : Nat → Prop} {w0 w : World} (h : Keeps S w0 w) (g : Nat) (hg : S g ∨ w0.heap.size ≤ g) (u0 u1 u2 u3 u4 u5 u6 : Value) :
    Keeps S w0 (((((((w.setCell ⟨g, 0, none⟩ u0).setCell ⟨g, 1, none⟩ u1).setCell ⟨g, 2, none⟩ u2).setCell ⟨g, 3, none⟩ u3).setCell ⟨g, 4, none⟩ u4).setCell ⟨g, 5, none⟩ u5).setCell ⟨g, 6, none⟩ u6) :=
  ((((((h.trans (Keeps.setCell _ _ _ hg)).trans (Keeps.setCell _ _ _ hg)).trans (Keeps.setCell _ _ _ hg)).trans (Keeps.setCell _ _ _ hg)).trans (Keeps.setCell _ _ _ hg)).trans (Keeps.setCell _ _ _ hg)).trans (Keeps.setCell _ _ _ hg)
def TermsPost (lo : Nat) (w : World) (b : Nat) (B : List Int) (e : Ending) (w' : World) : Prop :=
  ∃ v, e = .returned (.agg ((scrTerms B).cells v)) ∧ RdAt lo w' b B (scrO B + 6) ∧ w'.ownsRow 0 81 2 v (scrN B) ((scrTrs B (scrN B)).flatMap Tr.cells) ∧ (∀ g, v.ownBlock = some g → w.heap.size ≤ g) ∧ Keeps (fun j => j = b) w w'
set_option maxRecDepth 100000 in
set_option maxHeartbeats 1600000 in
theorem rdTerms_any (lo b : Nat) (B : List Int) (w : World) (h : RdAt lo w b B 0) (hB : ByOk B) (hlo : lo ≤ w.heap.size) (hbl : b < w.heap.size) :
    Calls Try.prog 29 #[(.pointer (some ⟨b, 0, none⟩))] w (TermsPost lo w b B) := by
  obtain ⟨i0, hi, hi0, hi1, hi2⟩ := info_parts info_tTr
  have hts : TS lo w ((w.alloc (.cells (zTm (.slice none 0 0)) 27)).alloc (.cells (zTm (.slice none 0 0)) 27)) b B w.heap.size (w.heap.size + 1) (zTm (.slice none 0 0)) (.slice none 0 0) [] 0 := by
    have hk : Keeps (fun _ => False) w ((w.alloc (.cells (zTm (.slice none 0 0)) 27)).alloc (.cells (zTm (.slice none 0 0)) 27)) := (Keeps.alloc _ _).trans (Keeps.alloc _ _)
    refine ⟨h.keeps hk (by simp), box_alloc (heap_alloc_new w _) _, ?_, World.ownsRow_nil _ _ _ _, by simp [Value.ownBlock], hk.mono (by simp), hlo, hbl, rfl, rfl⟩
    have := heap_alloc_new (w.alloc (.cells (zTm (.slice none 0 0)) 27)) (.cells (zTm (.slice none 0 0)) 27)
    simpa using this
  have hN := scrN_bd hB
  obtain ⟨N, hNe⟩ : ∃ N, N = scrN B := ⟨_, rfl⟩
  obtain ⟨z0, hz0, hz0a, hz0b⟩ := bt_ex hB 0
  have hNi : (N : Int) = z0 % 3 + 1 := by have := bt_bd hB 0; rw [hNe, ← hz0]; unfold scrN; omega
  rw [← hNe] at hN
  obtain ⟨hN1, hN3⟩ := hN
  have H := Lib.hid h; clear h; have HB := Lib.hid hB; clear hB; have Hts := Lib.hid hts; clear hts; have HNe := Lib.hid hNe; clear hNe; have HNi := Lib.hid hNi; clear hNi; have Hz0 := Lib.hid hz0; clear hz0
  go_enter Try.func29, Try.ntmps29
  go_wp2_with fail
  refine (rdNum_at Hts.out.rd HB.out Hz0.out).mono ?_
  rintro e w1 ⟨rfl, hr, hk⟩
  have Hts1 := Lib.hid (Hts.out.num hr hk)
  clear hr hk
  go_wp2
  go_loopw [4] (fun c wr => ∃ (i : Nat) (v : Value), i ≤ N ∧ c = .int .i64 ((N : Int) - i) ∧ TS lo w wr b B w.heap.size (w.heap.size + 1) (zTm v) v (scrTrs B i) (1 + 2 * i)) (fun c _ => (intOf c).toNat)
  case atStart => exact ⟨0, _, Nat.zero_le _, by rw [HNi.out]; simp, Hts1.out⟩
  case round =>
    obtain ⟨i, v, hiN, rfl, hts⟩ := hrel
    have hsh := ownsRow_shape hts.row
    rw [scrTrs_length] at hsh
    obtain ⟨adv, capv, rfl, hcv, _⟩ := hsh
    have Hts := Lib.hid hts; clear hts
    obtain ⟨z, hz, hza, hzb⟩ := bt_ex HB.out (1 + 2 * i)
    obtain ⟨y, hy, hya, hyb⟩ := bt_ex HB.out (1 + 2 * i + 1)
    by_cases hiN1 : i < N
    · have hpos : (0 : Int) < (N : Int) - i := by omega
      have hstr : scrTrs B (i + 1) = scrTrs B i ++ [⟨z * 10000, y % 2 == 1⟩] := by rw [scrTrs, scrTr, hz, hy]
      have Hz := Lib.hid hz; clear hz; have Hy := Lib.hid hy; clear hy; have Hstr := Lib.hid hstr; clear hstr
      go_wp2_with fail
      refine (rdNum_at Hts.out.rd HB.out Hz.out).mono ?_
      rintro e w2 ⟨rfl, hr, hk⟩
      have Hts2 := Lib.hid (Hts.out.num hr hk)
      have hsz2 := hk.size
      clear hr hk
      go_wp2_with fail
      have Hts2a := Lib.hid (Hts2.out.keep (S := fun _ => False) (Keeps.alloc w2 (.cells #[.int .i64 (z * 10000), .bool false] 81)) (by simp))
      refine (rdNum_at Hts2a.out.rd HB.out Hy.out).mono ?_
      rintro e w3 ⟨rfl, hr, hk⟩
      have Hts3 := Lib.hid (Hts2a.out.num hr hk)
      have hlt := lt_of_block Hts2.out.blk
      have hx := box_new hk (by omega)
      have xo := cell_of_cells hx
      have xf := free_of_cells hx
      have hxl := lt_of_block hx
      have xo0 := xo 0
      have xo1 := xo 1
      have xf1 := xf 1
      have ho := Hts3.out.blk
      have tc1 : w3.cell? ⟨w.heap.size + 1, 1, none⟩ = some (.slice adv i capv) := cell_of_cells ho 1
      have tf1 := free_of_cells ho 1
      have htl := lt_of_block ho
      have hne1 : ¬ w2.heap.size = w.heap.size + 1 := by omega
      have hne2 : ¬ w.heap.size + 1 = w2.heap.size := by omega
      have hvx : (Value.slice adv i capv).ownBlock ≠ some w2.heap.size := fun e => by have := (Hts.out.row.lt _ e).2; omega
      have hts4 := Hts3.out.keep (Keeps.setCell (S := fun j => j = w2.heap.size) w3 ⟨w2.heap.size, 1, none⟩ (.bool (y % 2 == 1)) rfl) (fun j hj => by subst hj; exact ⟨by omega, hvx⟩)
      have hrow4 := hts4.row
      rw [scrTrs_length] at hrow4
      have Hts4 := Lib.hid hts4
      have Hrow4 := Lib.hid hrow4
      clear xo xf hr hk hx ho hts4 hrow4
      go_wp2_with (at_builtin; refine wpList_append_row rfl (.tmp 24) (.tmp 26) 25 rfl 0 81 i0 _ 2 16 Try.underlying25 hi hi0 hi1 hi2 rfl (by decide) (.slice adv i capv) i _ rfl (Hrow4.out.alloc _) _ 1 [.int .i64 (z * 10000), .bool (y % 2 == 1)] rfl (Reads.litAt _ _ _ _ _ _ (by simp) rfl) (by simp [Value.oneCell']) (by unfold maxLen; omega) (by omega) (by omega) ?_)
      intro v' w4 hown4 hk4 hf4
      have hs4 : (w3.setCell ⟨w2.heap.size, 1, none⟩ (.bool (y % 2 == 1))).heap.size = w3.heap.size := by simp [World.setCell]
      have hsz3 : w.heap.size + 2 ≤ w3.heap.size := by omega
      have hk4' : Keeps (fun j => (Value.slice adv i capv).ownBlock = some j) (w3.setCell ⟨w2.heap.size, 1, none⟩ (.bool (y % 2 == 1))) w4 := (Keeps.alloc _ _).trans (hk4.mono fun j _ hj => .inl hj)
      have hvb : ∀ g, (Value.slice adv i capv).ownBlock = some g → w.heap.size ≤ g ∧ g ≠ w.heap.size ∧ g ≠ w.heap.size + 1 := fun g hg =>
        ⟨Hts4.out.new g hg, fun e => ownsRow_ne Hts4.out.row Hts4.out.res (by decide) (by rw [hg, e]), fun e => ownsRow_ne Hts4.out.row Hts4.out.blk (by decide) (by rw [hg, e])⟩
      have hres4 := box_old Hts4.out.res hk4' (fun hs => (hvb _ hs).2.1 rfl)
      have hblk4 := box_old Hts4.out.blk hk4' (fun hs => (hvb _ hs).2.2 rfl)
      have hrd4 := Hts4.out.rd.keeps hk4' (fun j hj => by have := (hvb j hj).1; omega)
      have hnew4 : ∀ g, v'.ownBlock = some g → w.heap.size ≤ g := fun g hg => by
        rcases hf4 with hf | ⟨g', hg', hh⟩
        · exact (hvb g (by rw [← hf]; exact hg)).1
        · rw [hg'] at hg; simp only [Option.some.injEq] at hg; first | omega | (simp only [World.size_alloc, hs4] at hh; omega) | (simp [World.setCell] at hh; omega)
      have hkp4 : Keeps (fun j => j = b) w w4 := Hts4.out.kp.trans (hk4'.mono fun j _ hj => .inr (hvb j hj).1)
      have hrow5 : w4.ownsRow 0 81 2 v' (scrTrs B (i + 1)).length ((scrTrs B (i + 1)).flatMap Tr.cells) := by
        rw [scrTrs_length, Hstr.out]; simpa [List.flatMap_append, Tr.cells] using hown4
      obtain ⟨adv', capv', rfl, hcv', _⟩ := ownsRow_shape hown4
      have tc5 : w4.cell? ⟨w.heap.size + 1, 1, none⟩ = some (.slice adv i capv) := cell_of_cells hblk4 1
      have tf5 := free_of_cells hblk4 1
      have htl5 := lt_of_block hblk4
      have hts5 : TS lo w (w4.setCell ⟨w.heap.size + 1, 1, none⟩ (.slice adv' (i + 1) capv')) b B w.heap.size (w.heap.size + 1) (zTm (.slice adv' (i + 1) capv')) (.slice adv' (i + 1) capv') (scrTrs B (i + 1)) (1 + 2 * (i + 1)) :=
        TS.set (C := zTm (.slice adv i capv)) ⟨hrd4, hres4, hblk4, hrow5, hnew4, hkp4, Hts4.out.ord⟩ 1 _ (heap_setCell_same _ _ 1 _ _ _ hblk4)
      have Hts5 := Lib.hid hts5; clear hts5
      clear hown4 hk4 hf4 hk4' hvb hres4 hblk4 hrd4 hnew4 hkp4 hrow5
      go_wp2
      go_roundw
      case rel => exact ⟨i + 1, _, by omega, by go_num, Hts5.out⟩
      case measure => simp [intOf]; omega
    · have hiN' : i = N := by omega
      subst hiN'
      have hzero : ¬ (0 : Int) < (i : Int) - i := by omega
      clear hiN1 hcv
      have hoo : 1 + 2 * i = scrO B := by unfold scrO; rw [← HNe.out]
      obtain ⟨y0, hy0, hy0a, hy0b⟩ := bt_ex HB.out (1 + 2 * i)
      obtain ⟨y1, hy1, hy1a, hy1b⟩ := bt_ex HB.out (1 + 2 * i + 1)
      obtain ⟨y2, hy2, hy2a, hy2b⟩ := bt_ex HB.out (1 + 2 * i + 2)
      obtain ⟨y3, hy3, hy3a, hy3b⟩ := bt_ex HB.out (1 + 2 * i + 3)
      obtain ⟨y4, hy4, hy4a, hy4b⟩ := bt_ex HB.out (1 + 2 * i + 4)
      obtain ⟨y5, hy5, hy5a, hy5b⟩ := bt_ex HB.out (1 + 2 * i + 5)
      have hterms : scrTerms B = ⟨y2 * 1000, scrTrs B i, y0 % 28 + 1, y1 % 25 + 1, y3, y4 % 100, 10957 + y5⟩ := by
        unfold scrTerms; rw [← hoo, ← HNe.out, hy0, hy1, hy2, hy3, hy4, hy5]
      have Hz := Lib.hid hz; clear hz; have Hy := Lib.hid hy; clear hy; have Hoo := Lib.hid hoo; clear hoo; have Hy0 := Lib.hid hy0; clear hy0; have Hy1 := Lib.hid hy1; clear hy1; have Hy2 := Lib.hid hy2; clear hy2; have Hy3 := Lib.hid hy3; clear hy3; have Hy4 := Lib.hid hy4; clear hy4; have Hy5 := Lib.hid hy5; clear hy5; have Hterms := Lib.hid hterms; clear hterms
      go_wp2_with fail
      refine (rdNum_at Hts.out.rd HB.out Hy0.out).mono ?_
      rintro e q0 ⟨rfl, hr, hk⟩
      have Hq0a := Hts.out.num hr hk
      have q0o := cell_of_cells Hq0a.blk 2
      have q0f := free_of_cells Hq0a.blk 2
      have q0l := lt_of_block Hq0a.blk
      have q0k : TS lo w (q0.setCell ⟨w.heap.size + 1, 2, none⟩ (.int .i64 (y0 % 28 + 1))) b B w.heap.size (w.heap.size + 1) #[.int .i64 0, .slice adv i capv, .int .i64 (y0 % 28 + 1), .int .i64 0, .int .i64 0, .int .i64 0, .int .i64 0] (.slice adv i capv) (scrTrs B i) ((1 + 2 * i) + 1) := TS.set Hq0a 2 _ (heap_setCell_same _ _ 2 _ _ _ Hq0a.blk)
      have Hq0 := Lib.hid q0k
      clear hr hk Hq0a q0k
      go_wp2_with fail
      refine (rdNum_at Hq0.out.rd HB.out Hy1.out).mono ?_
      rintro e q1 ⟨rfl, hr, hk⟩
      have Hq1a := Hq0.out.num hr hk
      have q1o := cell_of_cells Hq1a.blk 3
      have q1f := free_of_cells Hq1a.blk 3
      have q1l := lt_of_block Hq1a.blk
      have q1k : TS lo w (q1.setCell ⟨w.heap.size + 1, 3, none⟩ (.int .i64 (y1 % 25 + 1))) b B w.heap.size (w.heap.size + 1) #[.int .i64 0, .slice adv i capv, .int .i64 (y0 % 28 + 1), .int .i64 (y1 % 25 + 1), .int .i64 0, .int .i64 0, .int .i64 0] (.slice adv i capv) (scrTrs B i) ((1 + 2 * i + 1) + 1) := TS.set Hq1a 3 _ (heap_setCell_same _ _ 3 _ _ _ Hq1a.blk)
      have Hq1 := Lib.hid q1k
      clear hr hk Hq1a q1k
      go_wp2_with fail
      refine (rdNum_at Hq1.out.rd HB.out Hy2.out).mono ?_
      rintro e q2 ⟨rfl, hr, hk⟩
      have Hq2a := Hq1.out.num hr hk
      have q2o := cell_of_cells Hq2a.blk 0
      have q2f := free_of_cells Hq2a.blk 0
      have q2l := lt_of_block Hq2a.blk
      have q2k : TS lo w (q2.setCell ⟨w.heap.size + 1, 0, none⟩ (.int .i64 (y2 * 1000))) b B w.heap.size (w.heap.size + 1) #[.int .i64 (y2 * 1000), .slice adv i capv, .int .i64 (y0 % 28 + 1), .int .i64 (y1 % 25 + 1), .int .i64 0, .int .i64 0, .int .i64 0] (.slice adv i capv) (scrTrs B i) ((1 + 2 * i + 2) + 1) := TS.set Hq2a 0 _ (heap_setCell_same _ _ 0 _ _ _ Hq2a.blk)
      have Hq2 := Lib.hid q2k
      clear hr hk Hq2a q2k
      go_wp2_with fail
      refine (rdNum_at Hq2.out.rd HB.out Hy3.out).mono ?_
      rintro e q3 ⟨rfl, hr, hk⟩
      have Hq3a := Hq2.out.num hr hk
      have q3o := cell_of_cells Hq3a.blk 4
      have q3f := free_of_cells Hq3a.blk 4
      have q3l := lt_of_block Hq3a.blk
      have q3k : TS lo w (q3.setCell ⟨w.heap.size + 1, 4, none⟩ (.int .i64 y3)) b B w.heap.size (w.heap.size + 1) #[.int .i64 (y2 * 1000), .slice adv i capv, .int .i64 (y0 % 28 + 1), .int .i64 (y1 % 25 + 1), .int .i64 y3, .int .i64 0, .int .i64 0] (.slice adv i capv) (scrTrs B i) ((1 + 2 * i + 3) + 1) := TS.set Hq3a 4 _ (heap_setCell_same _ _ 4 _ _ _ Hq3a.blk)
      have Hq3 := Lib.hid q3k
      clear hr hk Hq3a q3k
      go_wp2_with fail
      refine (rdNum_at Hq3.out.rd HB.out Hy4.out).mono ?_
      rintro e q4 ⟨rfl, hr, hk⟩
      have Hq4a := Hq3.out.num hr hk
      have q4o := cell_of_cells Hq4a.blk 5
      have q4f := free_of_cells Hq4a.blk 5
      have q4l := lt_of_block Hq4a.blk
      have q4k : TS lo w (q4.setCell ⟨w.heap.size + 1, 5, none⟩ (.int .i64 (y4 % 100))) b B w.heap.size (w.heap.size + 1) #[.int .i64 (y2 * 1000), .slice adv i capv, .int .i64 (y0 % 28 + 1), .int .i64 (y1 % 25 + 1), .int .i64 y3, .int .i64 (y4 % 100), .int .i64 0] (.slice adv i capv) (scrTrs B i) ((1 + 2 * i + 4) + 1) := TS.set Hq4a 5 _ (heap_setCell_same _ _ 5 _ _ _ Hq4a.blk)
      have Hq4 := Lib.hid q4k
      clear hr hk Hq4a q4k
      go_wp2_with fail
      refine (rdNum_at Hq4.out.rd HB.out Hy5.out).mono ?_
      rintro e q5 ⟨rfl, hr, hk⟩
      have hq5 := Hq4.out.num hr hk
      have o0 := cell_of_cells hq5.blk 0
      have o1 := cell_of_cells hq5.blk 1
      have o2 := cell_of_cells hq5.blk 2
      have o3 := cell_of_cells hq5.blk 3
      have o4 := cell_of_cells hq5.blk 4
      have o5 := cell_of_cells hq5.blk 5
      have o6 := cell_of_cells hq5.blk 6
      have o6f := free_of_cells hq5.blk 6
      have ol := lt_of_block hq5.blk
      have hres := hq5.res
      unfold zTm at hres
      have r0 := cell_of_cells hres 0
      have r1 := cell_of_cells hres 1
      have r2 := cell_of_cells hres 2
      have r3 := cell_of_cells hres 3
      have r4 := cell_of_cells hres 4
      have r5 := cell_of_cells hres 5
      have r6 := cell_of_cells hres 6
      have rf := free_of_cells hres
      have rl := lt_of_block hres
      have Hq5 := Lib.hid hq5
      clear hr hk hq5 hres
      go_wp2_with fail
      have hend : ∀ u0 u1 u2 u3 u4 u5 u6 : Value, let W := (((((((q5.setCell ⟨w.heap.size + 1, 6, none⟩ (.int .i64 (10957 + y5))).setCell ⟨w.heap.size, 0, none⟩ u0).setCell ⟨w.heap.size, 1, none⟩ u1).setCell ⟨w.heap.size, 2, none⟩ u2).setCell ⟨w.heap.size, 3, none⟩ u3).setCell ⟨w.heap.size, 4, none⟩ u4).setCell ⟨w.heap.size, 5, none⟩ u5).setCell ⟨w.heap.size, 6, none⟩ u6
          TermsPost lo w b B (.returned (.agg #[.int .i64 (y2 * 1000), .slice adv i capv, .int .i64 (y0 % 28 + 1), .int .i64 (y1 % 25 + 1), .int .i64 y3, .int .i64 (y4 % 100), .int .i64 (10957 + y5)])) W := by
        intro u0 u1 u2 u3 u4 u5 u6 W
        obtain ⟨d1, d2, d3, d4⟩ := Hq5.out.ord
        have hk6 : Keeps (fun j => j = w.heap.size + 1 ∨ j = w.heap.size) q5 W := Keeps.set7 (S := fun j => j = w.heap.size + 1 ∨ j = w.heap.size) (Keeps.setCell q5 ⟨w.heap.size + 1, 6, none⟩ _ (.inl rfl)) w.heap.size (.inl (.inr rfl)) u0 u1 u2 u3 u4 u5 u6
        refine ⟨.slice adv i capv, by rw [Hterms.out]; rfl, ?_, ?_, Hq5.out.new, Hq5.out.kp.trans (hk6.mono fun j _ hj => by right; omega)⟩
        · rw [← Hoo.out]; exact Hq5.out.rd.keeps hk6 (fun j hj => by omega)
        · have := hk6.row Hq5.out.row (fun g hg e => by
            rcases e with e | e
            · exact ownsRow_ne Hq5.out.row Hq5.out.blk (by decide) (by rw [hg, e])
            · exact ownsRow_ne Hq5.out.row Hq5.out.res (by decide) (by rw [hg, e]))
          rw [scrTrs_length] at this
          rw [← HNe.out]; exact this
      have Hend := Lib.hid hend
      clear hend
      exact bodyPost_ret (v := .agg #[.int .i64 (y2 * 1000), .slice adv i capv, .int .i64 (y0 % 28 + 1), .int .i64 (y1 % 25 + 1), .int .i64 y3, .int .i64 (y4 % 100), .int .i64 (10957 + y5)]) (by simp [results, Try.results29, go_sem, o0, o1, o2, o3, o4, o5, o6, r0, r1, r2, r3, r4, r5, r6]) rfl (Hend.out _ _ _ _ _ _ _)
end Go.Proofs.Ythokcmbgamanbaa
