/- The walks of the script layer: the reference's Decode. -/
import Derived.Test.YthokcmbgamanbaaScript5
namespace Go.Proofs.Ythokcmbgamanbaa
open Go.RowKit
/-- Whilst the reference reads commands. -/
structure RD (w w' : World) (bv : Value) (B : List Int) (v0 v : Value) (j k : Nat) : Prop where
  rd : RRdAt w.heap.size w' (w.heap.size + 1) bv B k
  res : w'.heap[w.heap.size]? = some (.cells (zTm (.slice none 0 0)) 27 (0, 0))
  blk : w'.heap[w.heap.size + 2]? = some (.cells ((scrTerms B).cells v0) 27 (0, 0))
  trs : w'.ownsRow 0 81 2 v0 (scrN B) ((scrTrs B (scrN B)).flatMap Tr.cells)
  row : w'.ownsRow 0 34 5 v j ((scrCmds B j).flatMap Cmd.cells)
  kp : Keeps (fun _ => False) w w'
  new0 : ∀ g, v0.ownBlock = some g → w.heap.size ≤ g
  new : ∀ g, v.ownBlock = some g → w.heap.size ≤ g
section
variable {w w' w'' : World} {bv : Value} {B : List Int} {v0 v v' : Value} {j k : Nat}
theorem RD.num (h : RD w w' bv B v0 v j k) (hr : RRdAt w.heap.size w'' (w.heap.size + 1) bv B (k + 1)) (hk : Keeps (fun i => i = w.heap.size + 1) w' w'') : RD w w'' bv B v0 v j (k + 1) := by
  refine ⟨hr, box_old h.res hk (by omega), box_old h.blk hk (by omega), hk.row h.trs (fun g hg e => ?_), hk.row h.row (fun g hg e => ?_), h.kp.trans (hk.mono fun i _ hi => by right; omega), h.new0, h.new⟩
  · subst e; exact ownsRow_ne h.trs h.rd.blk (by decide) hg
  · subst e; exact ownsRow_ne h.row h.rd.blk (by decide) hg
theorem RD.keep (h : RD w w' bv B v0 v j k) (hk : Keeps (fun _ => False) w' w'') : RD w w'' bv B v0 v j k :=
  ⟨h.rd.keeps hk (by simp), box_old h.res hk (by simp), box_old h.blk hk (by simp), hk.row h.trs (by simp), hk.row h.row (by simp), h.kp.trans (hk.mono (by simp)), h.new0, h.new⟩
theorem RD.app {c : Cmd} (h : RD w w' bv B v0 v j k) (ho : w''.ownsRow 0 34 5 v' (j + 1) ((scrCmds B j).flatMap Cmd.cells ++ c.cells)) (hc : scrCmds B (j + 1) = scrCmds B j ++ [c]) (hk : Keeps (fun i => v.ownBlock = some i) w' w'') (hf : v'.ownBlock = v.ownBlock ∨ ∃ g, v'.ownBlock = some g ∧ w'.heap.size ≤ g) : RD w w'' bv B v0 v' (j + 1) k := by
  have hs := h.kp.size
  refine ⟨h.rd.keeps hk (fun i hi => ⟨h.new i hi, fun e => ?_⟩), box_old h.res hk (ownsRow_ne h.row h.res (by decide)), box_old h.blk hk (ownsRow_ne h.row h.blk (by decide)), hk.row h.trs (fun g hg e => ?_), ?_, h.kp.trans (hk.mono fun i _ hi => .inr (h.new i hi)), h.new0, fun g hg => ?_⟩
  · subst e; exact ownsRow_ne h.row h.rd.blk (by decide) hi
  · rcases h.row.2 with ⟨e1, _⟩ | ⟨g1, cap1, cur1, e1, _, hh1, _⟩
    · subst e1; simp [Value.ownBlock] at e
    · subst e1
      simp only [Value.ownBlock, Option.some.injEq] at e
      subst e
      exact ownsRow_ne h.trs hh1 (by decide) hg
  · rw [hc, List.flatMap_append]; simpa using ho
  · rcases hf with hf | ⟨g', hg', hh⟩
    · exact h.new g (by rw [← hf]; exact hg)
    · rw [hg'] at hg; simp only [Option.some.injEq] at hg; omega
end
theorem rdec_end {w w' : World} {bv : Value} {B : List Int} {v0 v : Value} {j k : Nat} (h : RD w w' bv B v0 v j k) (hj : j = scrM B) {t0 t2 t3 t4 t5 t6 : Int} (ht : (scrTerms B).cells v0 = #[.int .i64 t0, v0, .int .i64 t2, .int .i64 t3, .int .i64 t4, .int .i64 t5, .int .i64 t6]) (u0 u1 u2 u3 u4 u5 u6 : Value) :
    DecPost w B (.returned (.tuple #[.agg #[.int .i64 t0, v0, .int .i64 t2, .int .i64 t3, .int .i64 t4, .int .i64 t5, .int .i64 t6], v])) (((((((w'.setCell ⟨w.heap.size, 0, none⟩ u0).setCell ⟨w.heap.size, 1, none⟩ u1).setCell ⟨w.heap.size, 2, none⟩ u2).setCell ⟨w.heap.size, 3, none⟩ u3).setCell ⟨w.heap.size, 4, none⟩ u4).setCell ⟨w.heap.size, 5, none⟩ u5).setCell ⟨w.heap.size, 6, none⟩ u6) := by
  have hk := Keeps.set7 (S := fun i => i = w.heap.size) (Keeps.refl _ w') w.heap.size (.inl rfl) u0 u1 u2 u3 u4 u5 u6
  subst hj
  refine ⟨v0, v, by rw [ht], hk.row h.trs (fun g hg e => ?_), hk.row h.row (fun g hg e => ?_), h.kp.trans (hk.mono fun i _ hi => by right; omega), h.new0, h.new⟩
  · subst e; exact ownsRow_ne h.trs h.res (by decide) hg
  · subst e; exact ownsRow_ne h.row h.res (by decide) hg
def lenOf (x : Value) : Nat := match x with | .slice _ n _ => n | _ => 0
set_option maxRecDepth 100000 in
set_option maxHeartbeats 6400000 in
theorem rscrDecode_any (B : List Int) (ad : Option Addr) (cap : Nat) (w : World) (hr : Reads w 1 (.slice ad B.length cap) B.length (B.flatMap u8c)) (hB : ByOk B) :
    Calls Try.prog 12 #[.slice ad B.length cap] w (DecPost w B) := by
  obtain ⟨i0, hi, hi0, hi1, hi2⟩ := info_parts info_tTr
  obtain ⟨i1, ij, ij0, ij1, ij2⟩ := info_parts info_tCmd
  obtain ⟨bv, hbv⟩ : ∃ bv, bv = Value.slice ad B.length cap := ⟨_, rfl⟩
  have hrs : RS w (((w.alloc (.cells (zTm (.slice none 0 0)) 27)).alloc (.cells #[.slice ad B.length cap, .int .i64 0] 78)).alloc (.cells (zTm (.slice none 0 0)) 27)) bv B (zTm (.slice none 0 0)) (.slice none 0 0) [] 0 := by
    subst hbv
    have b0 := heap_alloc_new w (.cells (zTm (.slice none 0 0)) 27)
    have b1 := heap_alloc_new (w.alloc (.cells (zTm (.slice none 0 0)) 27)) (.cells #[.slice ad B.length cap, .int .i64 0] 78)
    have b2 := heap_alloc_new ((w.alloc (.cells (zTm (.slice none 0 0)) 27)).alloc (.cells #[.slice ad B.length cap, .int .i64 0] 78)) (.cells (zTm (.slice none 0 0)) 27)
    refine ⟨⟨by simpa using box_alloc b1 _, ((hr.alloc _).alloc _).alloc _, fun hl g hg => ?_, by omega⟩, box_alloc (box_alloc b0 _) _, by simpa using b2, World.ownsRow_nil _ _ _ _, by simp [Value.ownBlock], ((Keeps.alloc w _).trans (Keeps.alloc _ _)).trans (Keeps.alloc _ _)⟩
    obtain ⟨g', hg', hl'⟩ := hr.lt (by intro h0; have := flat_length u8c_length B; rw [h0] at this; simp at this; omega)
    rw [hg'] at hg; simp only [Option.some.injEq] at hg; omega
  have hlen := hB.2
  have hN := scrN_bd hB
  obtain ⟨N, hNe⟩ : ∃ N, N = scrN B := ⟨_, rfl⟩
  obtain ⟨z0, hz0, hz0a, hz0b⟩ := bt_ex hB 0
  have hNi : (N : Int) = z0 % 3 + 1 := by have := bt_bd hB 0; rw [hNe, ← hz0]; unfold scrN; omega
  rw [← hNe] at hN
  obtain ⟨hN1, hN3⟩ := hN
  have Hr := Lib.hid hr; clear hr; have HB := Lib.hid hB; clear hB; have Hrs := Lib.hid hrs; clear hrs; have HNe := Lib.hid hNe; clear hNe; have HNi := Lib.hid hNi; clear hNi; have Hz0 := Lib.hid hz0; clear hz0; have Hbv := Lib.hid hbv; clear hbv
  go_enter Try.func12, Try.ntmps12
  go_wp2_with fail
  refine (rNext_at Hrs.out.rd HB.out Hz0.out).mono ?_
  rintro e w1 ⟨rfl, hr, hk⟩
  have Hrs1 := Lib.hid (Hrs.out.num hr hk)
  clear hr hk
  go_wp2
  go_loopw [7] (fun c wr => ∃ (i : Nat) (v : Value), i ≤ N ∧ c = .int .i64 (i : Nat) ∧ RS w wr bv B (zTm v) v (scrTrs B i) (1 + 2 * i)) (fun c _ => N - (intOf c).toNat)
  case atStart => exact ⟨0, _, Nat.zero_le _, rfl, Hrs1.out⟩
  case round =>
    obtain ⟨i, v, hiN, rfl, hrs⟩ := hrel
    have hsh := ownsRow_shape hrs.row
    rw [scrTrs_length] at hsh
    obtain ⟨adv, capv, rfl, hcv, _⟩ := hsh
    have Hrs := Lib.hid hrs; clear hrs
    by_cases hiN1 : i < N
    · obtain ⟨z, hz, hza, hzb⟩ := bt_ex HB.out (1 + 2 * i)
      obtain ⟨y, hy, hya, hyb⟩ := bt_ex HB.out (1 + 2 * i + 1)
      have hstr : scrTrs B (i + 1) = scrTrs B i ++ [⟨z * 10000, y % 2 == 1⟩] := by rw [scrTrs, scrTr, hz, hy]
      have hiz : (i : Int) < z0 % 3 + 1 := by have := HNi.out; omega
      have Hz := Lib.hid hz; clear hz; have Hy := Lib.hid hy; clear hy; have Hstr := Lib.hid hstr; clear hstr
      go_wp2_with fail
      refine (rNext_at Hrs.out.rd HB.out Hz.out).mono ?_
      rintro e w2 ⟨rfl, hr, hk⟩
      have Hrs2 := Lib.hid (Hrs.out.num hr hk)
      have hsz2 := hk.size
      clear hr hk
      go_wp2_with fail
      have Hrs2a := Lib.hid (Hrs2.out.keep (S := fun _ => False) (Keeps.alloc w2 (.cells #[.int .i64 (z * 10000), .bool false] 81)) (by simp))
      refine (rNext_at Hrs2a.out.rd HB.out Hy.out).mono ?_
      rintro e w3 ⟨rfl, hr, hk⟩
      have Hrs3 := Lib.hid (Hrs2a.out.num hr hk)
      have hlt := lt_of_block Hrs2.out.blk
      have hx := box_new hk (by omega)
      have xo := cell_of_cells hx
      have xf := free_of_cells hx
      have hxl := lt_of_block hx
      have xo0 := xo 0
      have xo1 := xo 1
      have xf1 := xf 1
      have ho := Hrs3.out.blk
      have tc1 : w3.cell? ⟨w.heap.size + 2, 1, none⟩ = some (.slice adv i capv) := cell_of_cells ho 1
      have tf1 := free_of_cells ho 1
      have htl := lt_of_block ho
      have hne1 : ¬ w2.heap.size = w.heap.size + 2 := by omega
      have hne2 : ¬ w.heap.size + 2 = w2.heap.size := by omega
      have hvx : (Value.slice adv i capv).ownBlock ≠ some w2.heap.size := fun e => by have := (Hrs.out.row.lt _ e).2; omega
      have hrs4 := Hrs3.out.keep (Keeps.setCell (S := fun j => j = w2.heap.size) w3 ⟨w2.heap.size, 1, none⟩ (.bool (y % 2 == 1)) rfl) (fun j hj => by subst hj; exact ⟨by omega, hvx⟩)
      have hrow4 := hrs4.row
      rw [scrTrs_length] at hrow4
      have Hrs4 := Lib.hid hrs4
      have Hrow4 := Lib.hid hrow4
      clear xo xf hr hk hx ho hrs4 hrow4
      go_wp2_with (at_builtin; refine wpList_append_row rfl (.tmp 40) (.tmp 42) 25 rfl 0 81 i0 _ 2 16 Try.underlying25 hi hi0 hi1 hi2 rfl (by decide) (.slice adv i capv) i _ rfl (Hrow4.out.alloc _) _ 1 [.int .i64 (z * 10000), .bool (y % 2 == 1)] rfl (Reads.litAt _ _ _ _ _ _ (by simp) rfl) (by simp [Value.oneCell']) (by unfold maxLen; omega) (by omega) (by omega) ?_)
      intro v' w4 hown4 hk4 hf4
      obtain ⟨adv', capv', rfl, hcv', _⟩ := ownsRow_shape hown4
      obtain ⟨tc, tf, htl5, hrs5⟩ := (Hrs4.out.keep (S := fun _ => False) (Keeps.alloc _ _) (by simp)).app (x := ⟨z * 10000, y % 2 == 1⟩) (L' := scrTrs B (i + 1)) (C' := zTm (.slice adv' (i + 1) capv')) (by rw [scrTrs_length]; exact hown4) Hstr.out hk4 (by simpa [World.setCell] using hf4) rfl
      have tc5 : w4.cell? ⟨w.heap.size + 2, 1, none⟩ = some (.slice adv i capv) := tc 1
      have tf5 := tf 1
      have Hrs5 := Lib.hid hrs5; clear hrs5
      clear hown4 hk4 hf4 tc tf
      go_wp2
      go_roundw
      case rel => exact ⟨i + 1, _, by omega, by go_num, Hrs5.out⟩
      case measure => simp [intOf]; omega
    · obtain rfl : N = i := by omega
      have hiz : ¬ (N : Int) < z0 % 3 + 1 := by have := HNi.out; omega
      clear hiN1 hcv
      have hoo : 1 + 2 * N = scrO B := by unfold scrO; rw [← HNe.out]
      obtain ⟨y0, hy0, hy0a, hy0b⟩ := bt_ex HB.out (1 + 2 * N)
      obtain ⟨y1, hy1, hy1a, hy1b⟩ := bt_ex HB.out (1 + 2 * N + 1)
      obtain ⟨y2, hy2, hy2a, hy2b⟩ := bt_ex HB.out (1 + 2 * N + 2)
      obtain ⟨y3, hy3, hy3a, hy3b⟩ := bt_ex HB.out (1 + 2 * N + 3)
      obtain ⟨y4, hy4, hy4a, hy4b⟩ := bt_ex HB.out (1 + 2 * N + 4)
      obtain ⟨y5, hy5, hy5a, hy5b⟩ := bt_ex HB.out (1 + 2 * N + 5)
      have hterms : scrTerms B = ⟨y2 * 1000, scrTrs B N, y0 % 28 + 1, y1 % 25 + 1, y3, y4 % 100, 10957 + y5⟩ := by
        unfold scrTerms; rw [← hoo, ← HNe.out, hy0, hy1, hy2, hy3, hy4, hy5]
      have hday0 : scrDay B 0 = 10957 + y5 := by rw [scrDay, ← hoo, hy5]
      have Hoo := Lib.hid hoo; clear hoo; have Hy0 := Lib.hid hy0; clear hy0; have Hy1 := Lib.hid hy1; clear hy1; have Hy2 := Lib.hid hy2; clear hy2; have Hy3 := Lib.hid hy3; clear hy3; have Hy4 := Lib.hid hy4; clear hy4; have Hy5 := Lib.hid hy5; clear hy5; have Hterms := Lib.hid hterms; clear hterms; have Hday0 := Lib.hid hday0; clear hday0
      go_wp2_with fail
      refine (rNext_at Hrs.out.rd HB.out Hy0.out).mono ?_
      rintro e q0 ⟨rfl, hr, hk⟩
      have Hq0a := Hrs.out.num hr hk
      have q0o := cell_of_cells Hq0a.blk 2
      have q0f := free_of_cells Hq0a.blk 2
      have q0l := lt_of_block Hq0a.blk
      have q0k : RS w (q0.setCell ⟨w.heap.size + 2, 2, none⟩ (.int .i64 (y0 % 28 + 1))) bv B #[.int .i64 0, .slice adv N capv, .int .i64 (y0 % 28 + 1), .int .i64 0, .int .i64 0, .int .i64 0, .int .i64 0] (.slice adv N capv) (scrTrs B N) ((1 + 2 * N) + 1) := RS.set Hq0a 2 _ (heap_setCell_same _ _ 2 _ _ _ Hq0a.blk)
      have Hq0 := Lib.hid q0k
      clear hr hk Hq0a q0k
      go_wp2_with fail
      refine (rNext_at Hq0.out.rd HB.out Hy1.out).mono ?_
      rintro e q1 ⟨rfl, hr, hk⟩
      have Hq1a := Hq0.out.num hr hk
      have q1o := cell_of_cells Hq1a.blk 3
      have q1f := free_of_cells Hq1a.blk 3
      have q1l := lt_of_block Hq1a.blk
      have q1k : RS w (q1.setCell ⟨w.heap.size + 2, 3, none⟩ (.int .i64 (y1 % 25 + 1))) bv B #[.int .i64 0, .slice adv N capv, .int .i64 (y0 % 28 + 1), .int .i64 (y1 % 25 + 1), .int .i64 0, .int .i64 0, .int .i64 0] (.slice adv N capv) (scrTrs B N) ((1 + 2 * N + 1) + 1) := RS.set Hq1a 3 _ (heap_setCell_same _ _ 3 _ _ _ Hq1a.blk)
      have Hq1 := Lib.hid q1k
      clear hr hk Hq1a q1k
      go_wp2_with fail
      refine (rNext_at Hq1.out.rd HB.out Hy2.out).mono ?_
      rintro e q2 ⟨rfl, hr, hk⟩
      have Hq2a := Hq1.out.num hr hk
      have q2o := cell_of_cells Hq2a.blk 0
      have q2f := free_of_cells Hq2a.blk 0
      have q2l := lt_of_block Hq2a.blk
      have q2k : RS w (q2.setCell ⟨w.heap.size + 2, 0, none⟩ (.int .i64 (y2 * 1000))) bv B #[.int .i64 (y2 * 1000), .slice adv N capv, .int .i64 (y0 % 28 + 1), .int .i64 (y1 % 25 + 1), .int .i64 0, .int .i64 0, .int .i64 0] (.slice adv N capv) (scrTrs B N) ((1 + 2 * N + 2) + 1) := RS.set Hq2a 0 _ (heap_setCell_same _ _ 0 _ _ _ Hq2a.blk)
      have Hq2 := Lib.hid q2k
      clear hr hk Hq2a q2k
      go_wp2_with fail
      refine (rNext_at Hq2.out.rd HB.out Hy3.out).mono ?_
      rintro e q3 ⟨rfl, hr, hk⟩
      have Hq3a := Hq2.out.num hr hk
      have q3o := cell_of_cells Hq3a.blk 4
      have q3f := free_of_cells Hq3a.blk 4
      have q3l := lt_of_block Hq3a.blk
      have q3k : RS w (q3.setCell ⟨w.heap.size + 2, 4, none⟩ (.int .i64 y3)) bv B #[.int .i64 (y2 * 1000), .slice adv N capv, .int .i64 (y0 % 28 + 1), .int .i64 (y1 % 25 + 1), .int .i64 y3, .int .i64 0, .int .i64 0] (.slice adv N capv) (scrTrs B N) ((1 + 2 * N + 3) + 1) := RS.set Hq3a 4 _ (heap_setCell_same _ _ 4 _ _ _ Hq3a.blk)
      have Hq3 := Lib.hid q3k
      clear hr hk Hq3a q3k
      go_wp2_with fail
      refine (rNext_at Hq3.out.rd HB.out Hy4.out).mono ?_
      rintro e q4 ⟨rfl, hr, hk⟩
      have Hq4a := Hq3.out.num hr hk
      have q4o := cell_of_cells Hq4a.blk 5
      have q4f := free_of_cells Hq4a.blk 5
      have q4l := lt_of_block Hq4a.blk
      have q4k : RS w (q4.setCell ⟨w.heap.size + 2, 5, none⟩ (.int .i64 (y4 % 100))) bv B #[.int .i64 (y2 * 1000), .slice adv N capv, .int .i64 (y0 % 28 + 1), .int .i64 (y1 % 25 + 1), .int .i64 y3, .int .i64 (y4 % 100), .int .i64 0] (.slice adv N capv) (scrTrs B N) ((1 + 2 * N + 4) + 1) := RS.set Hq4a 5 _ (heap_setCell_same _ _ 5 _ _ _ Hq4a.blk)
      have Hq4 := Lib.hid q4k
      clear hr hk Hq4a q4k
      go_wp2_with fail
      refine (rNext_at Hq4.out.rd HB.out Hy5.out).mono ?_
      rintro e q5 ⟨rfl, hr, hk⟩
      have Hq5a := Hq4.out.num hr hk
      have q5o := cell_of_cells Hq5a.blk 6
      have q5f := free_of_cells Hq5a.blk 6
      have q5l := lt_of_block Hq5a.blk
      have q5k : RS w (q5.setCell ⟨w.heap.size + 2, 6, none⟩ (.int .i64 (10957 + y5))) bv B #[.int .i64 (y2 * 1000), .slice adv N capv, .int .i64 (y0 % 28 + 1), .int .i64 (y1 % 25 + 1), .int .i64 y3, .int .i64 (y4 % 100), .int .i64 (10957 + y5)] (.slice adv N capv) (scrTrs B N) ((1 + 2 * N + 5) + 1) := RS.set Hq5a 6 _ (heap_setCell_same _ _ 6 _ _ _ Hq5a.blk)
      have Hq5 := Lib.hid q5k
      clear hr hk Hq5a q5k
      have hrd0 : RD w (q5.setCell ⟨w.heap.size + 2, 6, none⟩ (.int .i64 (10957 + y5))) bv B (.slice adv N capv) (.slice none 0 0) 0 (scrO B + 6 + 4 * 0) := by
        have hrow := Hq5.out.row
        rw [scrTrs_length] at hrow
        refine ⟨by rw [← Hoo.out]; exact Hq5.out.rd, Hq5.out.res, by rw [Hterms.out]; exact Hq5.out.blk, by rw [← HNe.out]; exact hrow, World.ownsRow_nil _ _ _ _, Hq5.out.kp, Hq5.out.new, by simp [Value.ownBlock]⟩
      have Hrd0 := Lib.hid hrd0; clear hrd0
      go_wp2
      go_loopw [9, 10] (fun s9 s10 wr => ∃ (j : Nat), s9 = .int .i64 (scrDay B j) ∧ RD w wr bv B (.slice adv N capv) s10 j (scrO B + 6 + 4 * j) ∧ j ≤ scrM B) (fun _ s10 _ => 200 - lenOf s10)
      case atStart => exact ⟨0, by rw [Hday0.out], Hrd0.out, Nat.zero_le _⟩
      case round =>
        obtain ⟨j, rfl, hds, hjM⟩ := hrel
        obtain ⟨ad0, c0, rfl, hcc, _⟩ := ownsRow_shape hds.row
        obtain ⟨day, hdayE⟩ : ∃ day, scrDay B j = day := ⟨_, rfl⟩
        have hday := scrDay_bd HB.out j
        rw [hdayE] at hday ⊢
        obtain ⟨hd0, hd1⟩ := hday
        obtain ⟨kk, hkk⟩ : ∃ kk, scrO B + 6 + 4 * j = kk := ⟨_, rfl⟩
        rw [hkk] at hds
        have hb := hds.rd.blk
        have x1 := cell_of_cells hb 1
        have xl := lt_of_block hb
        by_cases hgo : kk < B.length ∧ j < 200
        · obtain ⟨hkl, hj2⟩ := hgo
          rw [show min kk B.length = kk by omega] at x1
          have hkl' : (kk : Int) < (B.length : Int) := by omega
          obtain ⟨y0, hy0, hy0a, hy0b⟩ := bt_ex HB.out kk
          obtain ⟨y1, hy1, hy1a, hy1b⟩ := bt_ex HB.out (kk + 1)
          obtain ⟨y2, hy2, hy2a, hy2b⟩ := bt_ex HB.out (kk + 1 + 1)
          obtain ⟨y3, hy3, hy3a, hy3b⟩ := bt_ex HB.out (kk + 1 + 1 + 1)
          clear hb
          have Hds := Lib.hid hds; clear hds; have HdayE := Lib.hid hdayE; clear hdayE; have Hkk := Lib.hid hkk; clear hkk; have Hy0 := Lib.hid hy0; clear hy0; have Hy1 := Lib.hid hy1; clear hy1; have Hy2 := Lib.hid hy2; clear hy2; have Hy3 := Lib.hid hy3; clear hy3; have Hkl := Lib.hid hkl; clear hkl; have HjM := Lib.hid hjM; clear hjM
          go_wp2_with fail
          refine (rNext_at Hds.out.rd HB.out Hy0.out).mono ?_
          rintro e w5 ⟨rfl, hr, hk⟩
          have Hd1 := Lib.hid (Hds.out.num hr hk)
          clear hr hk
          go_wp2_with fail
          refine (rNext_at Hd1.out.rd HB.out Hy1.out).mono ?_
          rintro e w6 ⟨rfl, hr, hk⟩
          have Hd2 := Lib.hid (Hd1.out.num hr hk)
          clear hr hk
          go_wp2_with fail
          refine (rNext_at Hd2.out.rd HB.out Hy2.out).mono ?_
          rintro e w7 ⟨rfl, hr, hk⟩
          have Hd3 := Lib.hid (Hd2.out.num hr hk)
          clear hr hk
          go_wp2_with fail
          refine (rNext_at Hd3.out.rd HB.out Hy3.out).mono ?_
          rintro e w8 ⟨rfl, hr, hk⟩
          have Hd4 := Lib.hid (Hd3.out.num hr hk)
          clear hr hk
          rcases (show y0 % 11 = 0 ∨ y0 % 11 = 1 ∨ y0 % 11 = 2 ∨ y0 % 11 = 3 ∨ y0 % 11 = 4 ∨ y0 % 11 = 5 ∨ y0 % 11 = 6 ∨ y0 % 11 = 7 ∨ y0 % 11 = 8 ∨ y0 % 11 = 9 ∨ y0 % 11 = 10 from by omega) with hm | hm | hm | hm | hm | hm | hm | hm | hm | hm | hm
          · have hcmd : cmdAt B day kk = ⟨1, 0, y1 % 4, 256 * y2 + y3, 0⟩ := by unfold cmdAt; rw [Hy0.out, Hy1.out, Hy2.out, Hy3.out]; simp [cmdOf, hm]; try omega
            have hc1 : scrCmds B (j + 1) = scrCmds B j ++ [⟨1, 0, y1 % 4, 256 * y2 + y3, 0⟩] := by
              show scrCmds B j ++ [cmdAt B (scrDay B j) (scrO B + 6 + 4 * j)] = _
              rw [HdayE.out, Hkk.out, hcmd]
            have hsd : scrDay B (j + 1) = day := by
              show scrDay B j + tickOf (cmdAt B (scrDay B j) (scrO B + 6 + 4 * j)) = _
              rw [HdayE.out, Hkk.out, hcmd]; simp [tickOf]
            have hk0 : y0 % 11 + 1 = 1 := by omega
            have Hcmd := Lib.hid hcmd; clear hcmd; have Hc1 := Lib.hid hc1; clear hc1; have Hsd := Lib.hid hsd; clear hsd
            go_wp2_with (at_builtin; refine wpList_append_row rfl (.tmp 152) (.tmp 154) 28 rfl 0 34 i1 _ 5 40 Try.underlying28 ij ij0 ij1 ij2 rfl (by decide) (.slice ad0 j c0) j _ rfl ((Hd4.out.row.alloc _).alloc _) _ 1 [.int .i64 (1), .int .i64 (0), .int .i64 (y1 % 4), .int .i64 (256 * y2 + y3), .int .i64 (0)] rfl (Reads.litAt _ _ _ _ _ _ (by simp) rfl) (by simp [Value.oneCell']) (by unfold maxLen; omega) (by omega) (by omega) ?_)
            intro v' w9 hown9 hk9 hf9
            have hds9 := (Hd4.out.keep ((Keeps.alloc _ _).trans (Keeps.alloc _ _))).app (c := ⟨1, 0, y1 % 4, 256 * y2 + y3, 0⟩) hown9 Hc1.out hk9 (by simpa using hf9)
            obtain ⟨ad9, c9, rfl, _, _⟩ := ownsRow_shape hown9
            have Hds9 := Lib.hid hds9; clear hds9
            clear hown9 hk9 hf9
            go_wp2
            go_roundw
            case rel => exact ⟨j + 1, by rw [Hsd.out], by rw [show scrO B + 6 + 4 * (j + 1) = scrO B + 6 + 4 * j + 1 + 1 + 1 + 1 by omega, Hkk.out]; exact Hds9.out, by have := Hkl.out; have := Hkk.out; unfold scrM; omega⟩
            case measure => simp [lenOf]; omega
          · have hcmd : cmdAt B day kk = ⟨2, 0, 0, 256 * y2 + y3, 0⟩ := by unfold cmdAt; rw [Hy0.out, Hy1.out, Hy2.out, Hy3.out]; simp [cmdOf, hm]; try omega
            have hc1 : scrCmds B (j + 1) = scrCmds B j ++ [⟨2, 0, 0, 256 * y2 + y3, 0⟩] := by
              show scrCmds B j ++ [cmdAt B (scrDay B j) (scrO B + 6 + 4 * j)] = _
              rw [HdayE.out, Hkk.out, hcmd]
            have hsd : scrDay B (j + 1) = day := by
              show scrDay B j + tickOf (cmdAt B (scrDay B j) (scrO B + 6 + 4 * j)) = _
              rw [HdayE.out, Hkk.out, hcmd]; simp [tickOf]
            have hk0 : y0 % 11 + 1 = 2 := by omega
            have Hcmd := Lib.hid hcmd; clear hcmd; have Hc1 := Lib.hid hc1; clear hc1; have Hsd := Lib.hid hsd; clear hsd
            go_wp2_with (at_builtin; refine wpList_append_row rfl (.tmp 152) (.tmp 154) 28 rfl 0 34 i1 _ 5 40 Try.underlying28 ij ij0 ij1 ij2 rfl (by decide) (.slice ad0 j c0) j _ rfl ((Hd4.out.row.alloc _).alloc _) _ 1 [.int .i64 (2), .int .i64 (0), .int .i64 (0), .int .i64 (256 * y2 + y3), .int .i64 (0)] rfl (Reads.litAt _ _ _ _ _ _ (by simp) rfl) (by simp [Value.oneCell']) (by unfold maxLen; omega) (by omega) (by omega) ?_)
            intro v' w9 hown9 hk9 hf9
            have hds9 := (Hd4.out.keep ((Keeps.alloc _ _).trans (Keeps.alloc _ _))).app (c := ⟨2, 0, 0, 256 * y2 + y3, 0⟩) hown9 Hc1.out hk9 (by simpa using hf9)
            obtain ⟨ad9, c9, rfl, _, _⟩ := ownsRow_shape hown9
            have Hds9 := Lib.hid hds9; clear hds9
            clear hown9 hk9 hf9
            go_wp2
            go_roundw
            case rel => exact ⟨j + 1, by rw [Hsd.out], by rw [show scrO B + 6 + 4 * (j + 1) = scrO B + 6 + 4 * j + 1 + 1 + 1 + 1 by omega, Hkk.out]; exact Hds9.out, by have := Hkl.out; have := Hkk.out; unfold scrM; omega⟩
            case measure => simp [lenOf]; omega
          · have hcmd : cmdAt B day kk = ⟨3, day - y3, y1 % 4, 256 * y2 + y3, 0⟩ := by unfold cmdAt; rw [Hy0.out, Hy1.out, Hy2.out, Hy3.out]; simp [cmdOf, hm]; try omega
            have hc1 : scrCmds B (j + 1) = scrCmds B j ++ [⟨3, day - y3, y1 % 4, 256 * y2 + y3, 0⟩] := by
              show scrCmds B j ++ [cmdAt B (scrDay B j) (scrO B + 6 + 4 * j)] = _
              rw [HdayE.out, Hkk.out, hcmd]
            have hsd : scrDay B (j + 1) = day := by
              show scrDay B j + tickOf (cmdAt B (scrDay B j) (scrO B + 6 + 4 * j)) = _
              rw [HdayE.out, Hkk.out, hcmd]; simp [tickOf]
            have hk0 : y0 % 11 + 1 = 3 := by omega
            have Hcmd := Lib.hid hcmd; clear hcmd; have Hc1 := Lib.hid hc1; clear hc1; have Hsd := Lib.hid hsd; clear hsd
            go_wp2_with (at_builtin; refine wpList_append_row rfl (.tmp 152) (.tmp 154) 28 rfl 0 34 i1 _ 5 40 Try.underlying28 ij ij0 ij1 ij2 rfl (by decide) (.slice ad0 j c0) j _ rfl ((Hd4.out.row.alloc _).alloc _) _ 1 [.int .i64 (3), .int .i64 (day - y3), .int .i64 (y1 % 4), .int .i64 (256 * y2 + y3), .int .i64 (0)] rfl (Reads.litAt _ _ _ _ _ _ (by simp) rfl) (by simp [Value.oneCell']) (by unfold maxLen; omega) (by omega) (by omega) ?_)
            intro v' w9 hown9 hk9 hf9
            have hds9 := (Hd4.out.keep ((Keeps.alloc _ _).trans (Keeps.alloc _ _))).app (c := ⟨3, day - y3, y1 % 4, 256 * y2 + y3, 0⟩) hown9 Hc1.out hk9 (by simpa using hf9)
            obtain ⟨ad9, c9, rfl, _, _⟩ := ownsRow_shape hown9
            have Hds9 := Lib.hid hds9; clear hds9
            clear hown9 hk9 hf9
            go_wp2
            go_roundw
            case rel => exact ⟨j + 1, by rw [Hsd.out], by rw [show scrO B + 6 + 4 * (j + 1) = scrO B + 6 + 4 * j + 1 + 1 + 1 + 1 by omega, Hkk.out]; exact Hds9.out, by have := Hkl.out; have := Hkk.out; unfold scrM; omega⟩
            case measure => simp [lenOf]; omega
          · have hcmd : cmdAt B day kk = ⟨4, 0, y1 % 4, 256 * y2 + y3, 0⟩ := by unfold cmdAt; rw [Hy0.out, Hy1.out, Hy2.out, Hy3.out]; simp [cmdOf, hm]; try omega
            have hc1 : scrCmds B (j + 1) = scrCmds B j ++ [⟨4, 0, y1 % 4, 256 * y2 + y3, 0⟩] := by
              show scrCmds B j ++ [cmdAt B (scrDay B j) (scrO B + 6 + 4 * j)] = _
              rw [HdayE.out, Hkk.out, hcmd]
            have hsd : scrDay B (j + 1) = day := by
              show scrDay B j + tickOf (cmdAt B (scrDay B j) (scrO B + 6 + 4 * j)) = _
              rw [HdayE.out, Hkk.out, hcmd]; simp [tickOf]
            have hk0 : y0 % 11 + 1 = 4 := by omega
            have Hcmd := Lib.hid hcmd; clear hcmd; have Hc1 := Lib.hid hc1; clear hc1; have Hsd := Lib.hid hsd; clear hsd
            go_wp2_with (at_builtin; refine wpList_append_row rfl (.tmp 152) (.tmp 154) 28 rfl 0 34 i1 _ 5 40 Try.underlying28 ij ij0 ij1 ij2 rfl (by decide) (.slice ad0 j c0) j _ rfl ((Hd4.out.row.alloc _).alloc _) _ 1 [.int .i64 (4), .int .i64 (0), .int .i64 (y1 % 4), .int .i64 (256 * y2 + y3), .int .i64 (0)] rfl (Reads.litAt _ _ _ _ _ _ (by simp) rfl) (by simp [Value.oneCell']) (by unfold maxLen; omega) (by omega) (by omega) ?_)
            intro v' w9 hown9 hk9 hf9
            have hds9 := (Hd4.out.keep ((Keeps.alloc _ _).trans (Keeps.alloc _ _))).app (c := ⟨4, 0, y1 % 4, 256 * y2 + y3, 0⟩) hown9 Hc1.out hk9 (by simpa using hf9)
            obtain ⟨ad9, c9, rfl, _, _⟩ := ownsRow_shape hown9
            have Hds9 := Lib.hid hds9; clear hds9
            clear hown9 hk9 hf9
            go_wp2
            go_roundw
            case rel => exact ⟨j + 1, by rw [Hsd.out], by rw [show scrO B + 6 + 4 * (j + 1) = scrO B + 6 + 4 * j + 1 + 1 + 1 + 1 by omega, Hkk.out]; exact Hds9.out, by have := Hkl.out; have := Hkk.out; unfold scrM; omega⟩
            case measure => simp [lenOf]; omega
          · have hcmd : cmdAt B day kk = ⟨5, 0, 0, 0, y2 % 8 + 1⟩ := by unfold cmdAt; rw [Hy0.out, Hy1.out, Hy2.out, Hy3.out]; simp [cmdOf, hm]; try omega
            have hc1 : scrCmds B (j + 1) = scrCmds B j ++ [⟨5, 0, 0, 0, y2 % 8 + 1⟩] := by
              show scrCmds B j ++ [cmdAt B (scrDay B j) (scrO B + 6 + 4 * j)] = _
              rw [HdayE.out, Hkk.out, hcmd]
            have hsd : scrDay B (j + 1) = day := by
              show scrDay B j + tickOf (cmdAt B (scrDay B j) (scrO B + 6 + 4 * j)) = _
              rw [HdayE.out, Hkk.out, hcmd]; simp [tickOf]
            have hk0 : y0 % 11 + 1 = 5 := by omega
            have Hcmd := Lib.hid hcmd; clear hcmd; have Hc1 := Lib.hid hc1; clear hc1; have Hsd := Lib.hid hsd; clear hsd
            go_wp2_with (at_builtin; refine wpList_append_row rfl (.tmp 152) (.tmp 154) 28 rfl 0 34 i1 _ 5 40 Try.underlying28 ij ij0 ij1 ij2 rfl (by decide) (.slice ad0 j c0) j _ rfl ((Hd4.out.row.alloc _).alloc _) _ 1 [.int .i64 (5), .int .i64 (0), .int .i64 (0), .int .i64 (0), .int .i64 (y2 % 8 + 1)] rfl (Reads.litAt _ _ _ _ _ _ (by simp) rfl) (by simp [Value.oneCell']) (by unfold maxLen; omega) (by omega) (by omega) ?_)
            intro v' w9 hown9 hk9 hf9
            have hds9 := (Hd4.out.keep ((Keeps.alloc _ _).trans (Keeps.alloc _ _))).app (c := ⟨5, 0, 0, 0, y2 % 8 + 1⟩) hown9 Hc1.out hk9 (by simpa using hf9)
            obtain ⟨ad9, c9, rfl, _, _⟩ := ownsRow_shape hown9
            have Hds9 := Lib.hid hds9; clear hds9
            clear hown9 hk9 hf9
            go_wp2
            go_roundw
            case rel => exact ⟨j + 1, by rw [Hsd.out], by rw [show scrO B + 6 + 4 * (j + 1) = scrO B + 6 + 4 * j + 1 + 1 + 1 + 1 by omega, Hkk.out]; exact Hds9.out, by have := Hkl.out; have := Hkk.out; unfold scrM; omega⟩
            case measure => simp [lenOf]; omega
          · have hcmd : cmdAt B day kk = ⟨6, 0, 0, 0, y2 % 8 + 1⟩ := by unfold cmdAt; rw [Hy0.out, Hy1.out, Hy2.out, Hy3.out]; simp [cmdOf, hm]; try omega
            have hc1 : scrCmds B (j + 1) = scrCmds B j ++ [⟨6, 0, 0, 0, y2 % 8 + 1⟩] := by
              show scrCmds B j ++ [cmdAt B (scrDay B j) (scrO B + 6 + 4 * j)] = _
              rw [HdayE.out, Hkk.out, hcmd]
            have hsd : scrDay B (j + 1) = day := by
              show scrDay B j + tickOf (cmdAt B (scrDay B j) (scrO B + 6 + 4 * j)) = _
              rw [HdayE.out, Hkk.out, hcmd]; simp [tickOf]
            have hk0 : y0 % 11 + 1 = 6 := by omega
            have Hcmd := Lib.hid hcmd; clear hcmd; have Hc1 := Lib.hid hc1; clear hc1; have Hsd := Lib.hid hsd; clear hsd
            go_wp2_with (at_builtin; refine wpList_append_row rfl (.tmp 152) (.tmp 154) 28 rfl 0 34 i1 _ 5 40 Try.underlying28 ij ij0 ij1 ij2 rfl (by decide) (.slice ad0 j c0) j _ rfl ((Hd4.out.row.alloc _).alloc _) _ 1 [.int .i64 (6), .int .i64 (0), .int .i64 (0), .int .i64 (0), .int .i64 (y2 % 8 + 1)] rfl (Reads.litAt _ _ _ _ _ _ (by simp) rfl) (by simp [Value.oneCell']) (by unfold maxLen; omega) (by omega) (by omega) ?_)
            intro v' w9 hown9 hk9 hf9
            have hds9 := (Hd4.out.keep ((Keeps.alloc _ _).trans (Keeps.alloc _ _))).app (c := ⟨6, 0, 0, 0, y2 % 8 + 1⟩) hown9 Hc1.out hk9 (by simpa using hf9)
            obtain ⟨ad9, c9, rfl, _, _⟩ := ownsRow_shape hown9
            have Hds9 := Lib.hid hds9; clear hds9
            clear hown9 hk9 hf9
            go_wp2
            go_roundw
            case rel => exact ⟨j + 1, by rw [Hsd.out], by rw [show scrO B + 6 + 4 * (j + 1) = scrO B + 6 + 4 * j + 1 + 1 + 1 + 1 by omega, Hkk.out]; exact Hds9.out, by have := Hkl.out; have := Hkk.out; unfold scrM; omega⟩
            case measure => simp [lenOf]; omega
          · have hcmd : cmdAt B day kk = ⟨7, 0, y1 % 4, 100 * (256 * y2 + y3), 0⟩ := by unfold cmdAt; rw [Hy0.out, Hy1.out, Hy2.out, Hy3.out]; simp [cmdOf, hm]; try omega
            have hc1 : scrCmds B (j + 1) = scrCmds B j ++ [⟨7, 0, y1 % 4, 100 * (256 * y2 + y3), 0⟩] := by
              show scrCmds B j ++ [cmdAt B (scrDay B j) (scrO B + 6 + 4 * j)] = _
              rw [HdayE.out, Hkk.out, hcmd]
            have hsd : scrDay B (j + 1) = day := by
              show scrDay B j + tickOf (cmdAt B (scrDay B j) (scrO B + 6 + 4 * j)) = _
              rw [HdayE.out, Hkk.out, hcmd]; simp [tickOf]
            have hk0 : y0 % 11 + 1 = 7 := by omega
            have Hcmd := Lib.hid hcmd; clear hcmd; have Hc1 := Lib.hid hc1; clear hc1; have Hsd := Lib.hid hsd; clear hsd
            go_wp2_with (at_builtin; refine wpList_append_row rfl (.tmp 152) (.tmp 154) 28 rfl 0 34 i1 _ 5 40 Try.underlying28 ij ij0 ij1 ij2 rfl (by decide) (.slice ad0 j c0) j _ rfl ((Hd4.out.row.alloc _).alloc _) _ 1 [.int .i64 (7), .int .i64 (0), .int .i64 (y1 % 4), .int .i64 (100 * (256 * y2 + y3)), .int .i64 (0)] rfl (Reads.litAt _ _ _ _ _ _ (by simp) rfl) (by simp [Value.oneCell']) (by unfold maxLen; omega) (by omega) (by omega) ?_)
            intro v' w9 hown9 hk9 hf9
            have hds9 := (Hd4.out.keep ((Keeps.alloc _ _).trans (Keeps.alloc _ _))).app (c := ⟨7, 0, y1 % 4, 100 * (256 * y2 + y3), 0⟩) hown9 Hc1.out hk9 (by simpa using hf9)
            obtain ⟨ad9, c9, rfl, _, _⟩ := ownsRow_shape hown9
            have Hds9 := Lib.hid hds9; clear hds9
            clear hown9 hk9 hf9
            go_wp2
            go_roundw
            case rel => exact ⟨j + 1, by rw [Hsd.out], by rw [show scrO B + 6 + 4 * (j + 1) = scrO B + 6 + 4 * j + 1 + 1 + 1 + 1 by omega, Hkk.out]; exact Hds9.out, by have := Hkl.out; have := Hkk.out; unfold scrM; omega⟩
            case measure => simp [lenOf]; omega
          · have hcmd : cmdAt B day kk = ⟨8, y3 % 40 + 1, 0, 0, 0⟩ := by unfold cmdAt; rw [Hy0.out, Hy1.out, Hy2.out, Hy3.out]; simp [cmdOf, hm]; try omega
            have hc1 : scrCmds B (j + 1) = scrCmds B j ++ [⟨8, y3 % 40 + 1, 0, 0, 0⟩] := by
              show scrCmds B j ++ [cmdAt B (scrDay B j) (scrO B + 6 + 4 * j)] = _
              rw [HdayE.out, Hkk.out, hcmd]
            have hsd : scrDay B (j + 1) = day + (y3 % 40 + 1) := by
              show scrDay B j + tickOf (cmdAt B (scrDay B j) (scrO B + 6 + 4 * j)) = _
              rw [HdayE.out, Hkk.out, hcmd]; simp [tickOf]
            have hk0 : y0 % 11 + 1 = 8 := by omega
            have Hcmd := Lib.hid hcmd; clear hcmd; have Hc1 := Lib.hid hc1; clear hc1; have Hsd := Lib.hid hsd; clear hsd
            go_wp2_with (at_builtin; refine wpList_append_row rfl (.tmp 152) (.tmp 154) 28 rfl 0 34 i1 _ 5 40 Try.underlying28 ij ij0 ij1 ij2 rfl (by decide) (.slice ad0 j c0) j _ rfl ((Hd4.out.row.alloc _).alloc _) _ 1 [.int .i64 (8), .int .i64 (y3 % 40 + 1), .int .i64 (0), .int .i64 (0), .int .i64 (0)] rfl (Reads.litAt _ _ _ _ _ _ (by simp) rfl) (by simp [Value.oneCell']) (by unfold maxLen; omega) (by omega) (by omega) ?_)
            intro v' w9 hown9 hk9 hf9
            have hds9 := (Hd4.out.keep ((Keeps.alloc _ _).trans (Keeps.alloc _ _))).app (c := ⟨8, y3 % 40 + 1, 0, 0, 0⟩) hown9 Hc1.out hk9 (by simpa using hf9)
            obtain ⟨ad9, c9, rfl, _, _⟩ := ownsRow_shape hown9
            have Hds9 := Lib.hid hds9; clear hds9
            clear hown9 hk9 hf9
            go_wp2
            go_roundw
            case rel => exact ⟨j + 1, by rw [Hsd.out], by rw [show scrO B + 6 + 4 * (j + 1) = scrO B + 6 + 4 * j + 1 + 1 + 1 + 1 by omega, Hkk.out]; exact Hds9.out, by have := Hkl.out; have := Hkk.out; unfold scrM; omega⟩
            case measure => simp [lenOf]; omega
          · have hcmd : cmdAt B day kk = ⟨9, 0, 0, 0, 0⟩ := by unfold cmdAt; rw [Hy0.out, Hy1.out, Hy2.out, Hy3.out]; simp [cmdOf, hm]; try omega
            have hc1 : scrCmds B (j + 1) = scrCmds B j ++ [⟨9, 0, 0, 0, 0⟩] := by
              show scrCmds B j ++ [cmdAt B (scrDay B j) (scrO B + 6 + 4 * j)] = _
              rw [HdayE.out, Hkk.out, hcmd]
            have hsd : scrDay B (j + 1) = day := by
              show scrDay B j + tickOf (cmdAt B (scrDay B j) (scrO B + 6 + 4 * j)) = _
              rw [HdayE.out, Hkk.out, hcmd]; simp [tickOf]
            have hk0 : y0 % 11 + 1 = 9 := by omega
            have Hcmd := Lib.hid hcmd; clear hcmd; have Hc1 := Lib.hid hc1; clear hc1; have Hsd := Lib.hid hsd; clear hsd
            go_wp2_with (at_builtin; refine wpList_append_row rfl (.tmp 152) (.tmp 154) 28 rfl 0 34 i1 _ 5 40 Try.underlying28 ij ij0 ij1 ij2 rfl (by decide) (.slice ad0 j c0) j _ rfl ((Hd4.out.row.alloc _).alloc _) _ 1 [.int .i64 (9), .int .i64 (0), .int .i64 (0), .int .i64 (0), .int .i64 (0)] rfl (Reads.litAt _ _ _ _ _ _ (by simp) rfl) (by simp [Value.oneCell']) (by unfold maxLen; omega) (by omega) (by omega) ?_)
            intro v' w9 hown9 hk9 hf9
            have hds9 := (Hd4.out.keep ((Keeps.alloc _ _).trans (Keeps.alloc _ _))).app (c := ⟨9, 0, 0, 0, 0⟩) hown9 Hc1.out hk9 (by simpa using hf9)
            obtain ⟨ad9, c9, rfl, _, _⟩ := ownsRow_shape hown9
            have Hds9 := Lib.hid hds9; clear hds9
            clear hown9 hk9 hf9
            go_wp2
            go_roundw
            case rel => exact ⟨j + 1, by rw [Hsd.out], by rw [show scrO B + 6 + 4 * (j + 1) = scrO B + 6 + 4 * j + 1 + 1 + 1 + 1 by omega, Hkk.out]; exact Hds9.out, by have := Hkl.out; have := Hkk.out; unfold scrM; omega⟩
            case measure => simp [lenOf]; omega
          · have hcmd : cmdAt B day kk = ⟨10, 0, 0, 0, y2 % 8 + 1⟩ := by unfold cmdAt; rw [Hy0.out, Hy1.out, Hy2.out, Hy3.out]; simp [cmdOf, hm]; try omega
            have hc1 : scrCmds B (j + 1) = scrCmds B j ++ [⟨10, 0, 0, 0, y2 % 8 + 1⟩] := by
              show scrCmds B j ++ [cmdAt B (scrDay B j) (scrO B + 6 + 4 * j)] = _
              rw [HdayE.out, Hkk.out, hcmd]
            have hsd : scrDay B (j + 1) = day := by
              show scrDay B j + tickOf (cmdAt B (scrDay B j) (scrO B + 6 + 4 * j)) = _
              rw [HdayE.out, Hkk.out, hcmd]; simp [tickOf]
            have hk0 : y0 % 11 + 1 = 10 := by omega
            have Hcmd := Lib.hid hcmd; clear hcmd; have Hc1 := Lib.hid hc1; clear hc1; have Hsd := Lib.hid hsd; clear hsd
            go_wp2_with (at_builtin; refine wpList_append_row rfl (.tmp 152) (.tmp 154) 28 rfl 0 34 i1 _ 5 40 Try.underlying28 ij ij0 ij1 ij2 rfl (by decide) (.slice ad0 j c0) j _ rfl ((Hd4.out.row.alloc _).alloc _) _ 1 [.int .i64 (10), .int .i64 (0), .int .i64 (0), .int .i64 (0), .int .i64 (y2 % 8 + 1)] rfl (Reads.litAt _ _ _ _ _ _ (by simp) rfl) (by simp [Value.oneCell']) (by unfold maxLen; omega) (by omega) (by omega) ?_)
            intro v' w9 hown9 hk9 hf9
            have hds9 := (Hd4.out.keep ((Keeps.alloc _ _).trans (Keeps.alloc _ _))).app (c := ⟨10, 0, 0, 0, y2 % 8 + 1⟩) hown9 Hc1.out hk9 (by simpa using hf9)
            obtain ⟨ad9, c9, rfl, _, _⟩ := ownsRow_shape hown9
            have Hds9 := Lib.hid hds9; clear hds9
            clear hown9 hk9 hf9
            go_wp2
            go_roundw
            case rel => exact ⟨j + 1, by rw [Hsd.out], by rw [show scrO B + 6 + 4 * (j + 1) = scrO B + 6 + 4 * j + 1 + 1 + 1 + 1 by omega, Hkk.out]; exact Hds9.out, by have := Hkl.out; have := Hkk.out; unfold scrM; omega⟩
            case measure => simp [lenOf]; omega
          · have hcmd : cmdAt B day kk = ⟨11, 0, 0, 0, y2 % 8 + 1⟩ := by unfold cmdAt; rw [Hy0.out, Hy1.out, Hy2.out, Hy3.out]; simp [cmdOf, hm]; try omega
            have hc1 : scrCmds B (j + 1) = scrCmds B j ++ [⟨11, 0, 0, 0, y2 % 8 + 1⟩] := by
              show scrCmds B j ++ [cmdAt B (scrDay B j) (scrO B + 6 + 4 * j)] = _
              rw [HdayE.out, Hkk.out, hcmd]
            have hsd : scrDay B (j + 1) = day := by
              show scrDay B j + tickOf (cmdAt B (scrDay B j) (scrO B + 6 + 4 * j)) = _
              rw [HdayE.out, Hkk.out, hcmd]; simp [tickOf]
            have hk0 : y0 % 11 + 1 = 11 := by omega
            have Hcmd := Lib.hid hcmd; clear hcmd; have Hc1 := Lib.hid hc1; clear hc1; have Hsd := Lib.hid hsd; clear hsd
            go_wp2_with (at_builtin; refine wpList_append_row rfl (.tmp 152) (.tmp 154) 28 rfl 0 34 i1 _ 5 40 Try.underlying28 ij ij0 ij1 ij2 rfl (by decide) (.slice ad0 j c0) j _ rfl ((Hd4.out.row.alloc _).alloc _) _ 1 [.int .i64 (11), .int .i64 (0), .int .i64 (0), .int .i64 (0), .int .i64 (y2 % 8 + 1)] rfl (Reads.litAt _ _ _ _ _ _ (by simp) rfl) (by simp [Value.oneCell']) (by unfold maxLen; omega) (by omega) (by omega) ?_)
            intro v' w9 hown9 hk9 hf9
            have hds9 := (Hd4.out.keep ((Keeps.alloc _ _).trans (Keeps.alloc _ _))).app (c := ⟨11, 0, 0, 0, y2 % 8 + 1⟩) hown9 Hc1.out hk9 (by simpa using hf9)
            obtain ⟨ad9, c9, rfl, _, _⟩ := ownsRow_shape hown9
            have Hds9 := Lib.hid hds9; clear hds9
            clear hown9 hk9 hf9
            go_wp2
            go_roundw
            case rel => exact ⟨j + 1, by rw [Hsd.out], by rw [show scrO B + 6 + 4 * (j + 1) = scrO B + 6 + 4 * j + 1 + 1 + 1 + 1 by omega, Hkk.out]; exact Hds9.out, by have := Hkl.out; have := Hkk.out; unfold scrM; omega⟩
            case measure => simp [lenOf]; omega
        · have hjE : j = scrM B := by unfold scrM at hjM ⊢; omega
          have hgo' : B.length ≤ kk ∨ (kk < B.length ∧ 200 ≤ j) := by omega
          clear hgo
          have hblk := hds.blk
          have hres := hds.res
          obtain ⟨t0, t2, t3, t4, t5, t6, ht⟩ : ∃ t0 t2 t3 t4 t5 t6 : Int, (scrTerms B).cells (.slice adv N capv) = #[.int .i64 t0, .slice adv N capv, .int .i64 t2, .int .i64 t3, .int .i64 t4, .int .i64 t5, .int .i64 t6] := ⟨_, _, _, _, _, _, rfl⟩
          rw [ht] at hblk
          unfold zTm at hres
          have b0 := cell_of_cells hblk 0
          have b1 := cell_of_cells hblk 1
          have b2 := cell_of_cells hblk 2
          have b3 := cell_of_cells hblk 3
          have b4 := cell_of_cells hblk 4
          have b5 := cell_of_cells hblk 5
          have b6 := cell_of_cells hblk 6
          have r0 := cell_of_cells hres 0
          have r1 := cell_of_cells hres 1
          have r2 := cell_of_cells hres 2
          have r3 := cell_of_cells hres 3
          have r4 := cell_of_cells hres 4
          have r5 := cell_of_cells hres 5
          have r6 := cell_of_cells hres 6
          have rf := free_of_cells hres
          have rl := lt_of_block hres
          have Hend := Lib.hid (rdec_end hds hjE ht)
          have Hds := Lib.hid hds; clear hds; have HdayE := Lib.hid hdayE; clear hdayE; have Hkk := Lib.hid hkk; clear hkk; have HjM := Lib.hid hjM; clear hjM; have HjE := Lib.hid hjE; clear hjE
          clear hblk hres ht hb
          rcases hgo' with hgo' | ⟨hgo', hgo2⟩
          · rw [show min kk B.length = B.length by omega] at x1
            go_wp2
            exact bodyPost_ret (v := .tuple #[.agg #[.int .i64 t0, .slice adv N capv, .int .i64 t2, .int .i64 t3, .int .i64 t4, .int .i64 t5, .int .i64 t6], .slice ad0 j c0]) (by simp [results, Try.results12, go_sem, r0, r1, r2, r3, r4, r5, r6, rl]) rfl (Hend.out _ _ _ _ _ _ _)
          · rw [show min kk B.length = kk by omega] at x1
            have hkl' : (kk : Int) < (B.length : Int) := by omega
            go_wp2
            exact bodyPost_ret (v := .tuple #[.agg #[.int .i64 t0, .slice adv N capv, .int .i64 t2, .int .i64 t3, .int .i64 t4, .int .i64 t5, .int .i64 t6], .slice ad0 j c0]) (by simp [results, Try.results12, go_sem, r0, r1, r2, r3, r4, r5, r6, rl]) rfl (Hend.out _ _ _ _ _ _ _)
end Go.Proofs.Ythokcmbgamanbaa
