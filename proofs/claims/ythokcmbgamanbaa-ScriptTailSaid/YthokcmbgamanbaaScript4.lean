/- The walks of the script layer: Decode. -/
import Derived.Test.YthokcmbgamanbaaScript3
namespace Go.Proofs.Ythokcmbgamanbaa
open Go.RowKit
theorem rdCommand_at {lo b k : Nat} {B : List Int} {today : Int} {w : World} (h : RdAt lo w b B k) (hB : ByOk B) (hlo : lo ≤ w.heap.size) (hbl : b < w.heap.size) (ht0 : 0 ≤ today) (ht1 : today ≤ 1000000000) {c0 c1 c2 c3 c4 : Int} (hc : cmdAt B today k = ⟨c0, c1, c2, c3, c4⟩) :
    Calls Try.prog 30 #[(.pointer (some ⟨b, 0, none⟩)), .int .i64 today] w fun e w' => e = .returned (.agg #[.int .i64 c0, .int .i64 c1, .int .i64 c2, .int .i64 c3, .int .i64 c4]) ∧ RdAt lo w' b B (k + 4) ∧ Keeps (fun j => j = b) w w' := by
  refine (rdCommand_any lo b k B today w h hB hlo hbl ht0 ht1).mono ?_
  rintro e w' ⟨rfl, hr, hk⟩
  exact ⟨by rw [hc]; rfl, hr, hk⟩
theorem rdTerms_at {lo b : Nat} {B : List Int} {w : World} (h : RdAt lo w b B 0) (hB : ByOk B) (hlo : lo ≤ w.heap.size) (hbl : b < w.heap.size) {t0 t2 t3 t4 t5 t6 : Int} (ht : ∀ v, (scrTerms B).cells v = #[.int .i64 t0, v, .int .i64 t2, .int .i64 t3, .int .i64 t4, .int .i64 t5, .int .i64 t6]) :
    Calls Try.prog 29 #[(.pointer (some ⟨b, 0, none⟩))] w fun e w' => ∃ v, e = .returned (.agg #[.int .i64 t0, v, .int .i64 t2, .int .i64 t3, .int .i64 t4, .int .i64 t5, .int .i64 t6]) ∧ RdAt lo w' b B (scrO B + 6) ∧ w'.ownsRow 0 81 2 v (scrN B) ((scrTrs B (scrN B)).flatMap Tr.cells) ∧ (∀ g, v.ownBlock = some g → w.heap.size ≤ g) ∧ Keeps (fun j => j = b) w w' := by
  refine (rdTerms_any lo b B w h hB hlo hbl).mono ?_
  rintro e w' ⟨v, rfl, hr⟩
  exact ⟨v, by rw [ht], hr⟩
/-- Whilst commands are read. -/
structure DS (w w' : World) (B : List Int) (T : Nat) (v0 v : Value) (j k : Nat) : Prop where
  rd : RdAt w.heap.size w' (w.heap.size + 1) B k
  res : w'.heap[w.heap.size]? = some (.cells (zTm (.slice none 0 0)) 27 (0, 0))
  blk : w'.heap[T]? = some (.cells ((scrTerms B).cells v0) 27 (0, 0))
  trs : w'.ownsRow 0 81 2 v0 (scrN B) ((scrTrs B (scrN B)).flatMap Tr.cells)
  row : w'.ownsRow 0 34 5 v j ((scrCmds B j).flatMap Cmd.cells)
  kp : Keeps (fun _ => False) w w'
  new0 : ∀ g, v0.ownBlock = some g → w.heap.size ≤ g
  new : ∀ g, v.ownBlock = some g → w.heap.size ≤ g
  tb : w.heap.size + 1 < T
section
variable {w w' w'' : World} {B : List Int} {T : Nat} {v0 v v' : Value} {j k : Nat}
theorem DS.rb (h : DS w w' B T v0 v j k) : w.heap.size + 1 < w'.heap.size := by have := lt_of_block h.blk; have := h.tb; omega
theorem DS.step (h : DS w w' B T v0 v j k) (hr : RdAt w.heap.size w'' (w.heap.size + 1) B (k + 4)) (hk : Keeps (fun i => i = w.heap.size + 1) w' w'') : DS w w'' B T v0 v j (k + 4) := by
  obtain ⟨ad, c, hb, _⟩ := h.rd.ex
  have ht := h.tb
  refine ⟨hr, box_old h.res hk (by omega), box_old h.blk hk (by omega), hk.row h.trs (fun g hg e => ?_), hk.row h.row (fun g hg e => ?_), h.kp.trans (hk.mono fun i _ hi => by right; omega), h.new0, h.new, h.tb⟩
  · subst e; exact ownsRow_ne h.trs hb (by decide) hg
  · subst e; exact ownsRow_ne h.row hb (by decide) hg
theorem DS.keep (h : DS w w' B T v0 v j k) (hk : Keeps (fun _ => False) w' w'') : DS w w'' B T v0 v j k :=
  ⟨h.rd.keeps hk (by simp), box_old h.res hk (by simp), box_old h.blk hk (by simp), hk.row h.trs (by simp), hk.row h.row (by simp), h.kp.trans (hk.mono (by simp)), h.new0, h.new, h.tb⟩
theorem DS.app {c : Cmd} (h : DS w w' B T v0 v j k) (ho : w''.ownsRow 0 34 5 v' (j + 1) ((scrCmds B j).flatMap Cmd.cells ++ c.cells)) (hc : scrCmds B (j + 1) = scrCmds B j ++ [c]) (hk : Keeps (fun i => v.ownBlock = some i) w' w'') (hf : v'.ownBlock = v.ownBlock ∨ ∃ g, v'.ownBlock = some g ∧ w'.heap.size ≤ g) : DS w w'' B T v0 v' (j + 1) k := by
  have hs := h.kp.size
  obtain ⟨ad, c', hb, _⟩ := h.rd.ex
  refine ⟨h.rd.keeps hk (fun i hi => ⟨h.new i hi, fun e => ?_⟩), box_old h.res hk (ownsRow_ne h.row h.res (by decide)), box_old h.blk hk (ownsRow_ne h.row h.blk (by decide)), hk.row h.trs (fun g hg e => ?_), ?_, h.kp.trans (hk.mono fun i _ hi => .inr (h.new i hi)), h.new0, fun g hg => ?_, h.tb⟩
  · subst e; exact ownsRow_ne h.row hb (by decide) hi
  · rcases h.row.2 with ⟨e1, _⟩ | ⟨g1, cap1, cur1, e1, _, hh1, _⟩
    · subst e1; simp [Value.ownBlock] at e
    · subst e1
      simp only [Value.ownBlock, Option.some.injEq] at e
      subst e
      exact ownsRow_ne h.trs hh1 (by decide) hg
  · rw [hc, List.flatMap_append]; simpa using ho
  · rcases hf with hf | ⟨g', hg', hh⟩
    · exact h.new g (by rw [← hf]; exact hg)
    · rw [hg'] at hg; simp only [Option.some.injEq] at hg; omega
end
def slotLen (i : Nat) (a' : Act) : Nat := match a'.tmps.getD i undef with | .slice _ n _ => n | _ => 0
def decJ (w : World) (B : List Int) (a' : Act) (w' : World) : Prop := ∃ (T : Nat) (v0 : Value) (j : Nat) (v : Value) (u0 u1 u3 u8 u9 u10 u11 u12 u13 u14 u15 u16 u17 u18 u19 u20 u21 u22 u23 u24 u25 u26 u27 u28 u29 u30 u31 u32 u33 u34 u35 u36 u37 u38 u39 u40 u41 u42 : Value),
  a' = { tmps := #[u0, u1, (.pointer (some ⟨w.heap.size, 0, none⟩)), u3, v, (.pointer (some ⟨w.heap.size + 1, 0, none⟩)), (.pointer (some ⟨T, 0, none⟩)), .int .i64 (scrDay B j), u8, u9, u10, u11, u12, u13, u14, u15, u16, u17, u18, u19, u20, u21, u22, u23, u24, u25, u26, u27, u28, u29, u30, u31, u32, u33, u34, u35, u36, u37, u38, u39, u40, u41, u42], defers := [] } ∧ DS w w' B T v0 v j (scrO B + 6 + 4 * j) ∧ j ≤ scrM B
def DecPost (w : World) (B : List Int) (e : Ending) (w' : World) : Prop :=
  ∃ v0 v, e = .returned (.tuple #[.agg ((scrTerms B).cells v0), v]) ∧ w'.ownsRow 0 81 2 v0 (scrN B) ((scrTrs B (scrN B)).flatMap Tr.cells) ∧ w'.ownsRow 0 34 5 v (scrM B) ((scrCmds B (scrM B)).flatMap Cmd.cells) ∧ Keeps (fun _ => False) w w' ∧ (∀ g, v0.ownBlock = some g → w.heap.size ≤ g) ∧ (∀ g, v.ownBlock = some g → w.heap.size ≤ g)
theorem dec_end {w w' : World} {B : List Int} {T : Nat} {v0 v : Value} {j k : Nat} (h : DS w w' B T v0 v j k) (hj : j = scrM B) {t0 t2 t3 t4 t5 t6 : Int} (ht : (scrTerms B).cells v0 = #[.int .i64 t0, v0, .int .i64 t2, .int .i64 t3, .int .i64 t4, .int .i64 t5, .int .i64 t6]) (u0 u1 u2 u3 u4 u5 u6 : Value) :
    DecPost w B (.returned (.tuple #[.agg #[.int .i64 t0, v0, .int .i64 t2, .int .i64 t3, .int .i64 t4, .int .i64 t5, .int .i64 t6], v])) (((((((w'.setCell ⟨w.heap.size, 0, none⟩ u0).setCell ⟨w.heap.size, 1, none⟩ u1).setCell ⟨w.heap.size, 2, none⟩ u2).setCell ⟨w.heap.size, 3, none⟩ u3).setCell ⟨w.heap.size, 4, none⟩ u4).setCell ⟨w.heap.size, 5, none⟩ u5).setCell ⟨w.heap.size, 6, none⟩ u6) := by
  have hk := Keeps.set7 (S := fun i => i = w.heap.size) (Keeps.refl _ w') w.heap.size (.inl rfl) u0 u1 u2 u3 u4 u5 u6
  subst hj
  refine ⟨v0, v, by rw [ht], hk.row h.trs (fun g hg e => ?_), hk.row h.row (fun g hg e => ?_), h.kp.trans (hk.mono fun i _ hi => by right; omega), h.new0, h.new⟩
  · subst e; exact ownsRow_ne h.trs h.res (by decide) hg
  · subst e; exact ownsRow_ne h.row h.res (by decide) hg
set_option maxRecDepth 100000 in
set_option maxHeartbeats 3200000 in
theorem scrDecode_any (B : List Int) (ad : Option Addr) (cap : Nat) (w : World) (hr : Reads w 1 (.slice ad B.length cap) B.length (B.flatMap u8c)) (hB : ByOk B) :
    Calls Try.prog 11 #[.slice ad B.length cap] w (DecPost w B) := by
  obtain ⟨i0, hi, hi0, hi1, hi2⟩ := info_parts info_tCmd
  have hrd : RdAt w.heap.size ((w.alloc (.cells (zTm (.slice none 0 0)) 27)).alloc (.cells #[.slice ad B.length cap] 73)) (w.heap.size + 1) B 0 := by
    have := heap_alloc_new (w.alloc (.cells (zTm (.slice none 0 0)) 27)) (.cells #[.slice ad B.length cap] 73)
    refine ⟨⟨ad, cap, by simpa using this, (hr.alloc _).alloc _, fun hl g hg => ?_⟩, by omega⟩
    obtain ⟨g', hg', hl'⟩ := hr.lt (by intro h0; have := flat_length u8c_length B; rw [h0] at this; simp at this; omega)
    simp only [Nat.sub_zero] at hg; rw [hg'] at hg; simp only [Option.some.injEq] at hg; omega
  have hz := heap_alloc_new w (.cells (zTm (.slice none 0 0)) 27)
  have hz' := box_alloc hz (.cells #[.slice ad B.length cap] 73)
  obtain ⟨t0, t2, t3, t4, t5, ht⟩ : ∃ t0 t2 t3 t4 t5 : Int, ∀ v, (scrTerms B).cells v = #[.int .i64 t0, v, .int .i64 t2, .int .i64 t3, .int .i64 t4, .int .i64 t5, .int .i64 (scrDay B 0)] := ⟨_, _, _, _, _, fun v => rfl⟩
  have Hr := Lib.hid hr; clear hr; have HB := Lib.hid hB; clear hB; have Hrd := Lib.hid hrd; clear hrd; have Hz := Lib.hid hz; clear hz; have Hz' := Lib.hid hz'; clear hz'; have Ht := Lib.hid ht; clear ht
  go_enter Try.func11, Try.ntmps11
  go_wp2
  refine wp_scope_jumps 0 (decJ w B) (fun a' _ => 200 - slotLen 4 a') rfl ?_ ?_
  · go_wp2_with (go_at_call 29; refine (rdTerms_at Hrd.out HB.out (by simp; omega) (by simp) Ht.out).mono ?_; rintro e w1 ⟨v0, rfl, hr1, ho1, hn1, hk1⟩; obtain ⟨ad0', c0', rfl, _, _⟩ := ownsRow_shape ho1; have Hr1 := Lib.hid hr1; have Ho1 := Lib.hid ho1; have Hn1 := Lib.hid hn1; have Hk1 := Lib.hid hk1; clear hr1 ho1 hn1 hk1)
    have hds : DS w (w1.alloc (.cells #[.int .i64 t0, .slice ad0' (scrN B) c0', .int .i64 t2, .int .i64 t3, .int .i64 t4, .int .i64 t5, .int .i64 (scrDay B 0)] 27)) B w1.heap.size (.slice ad0' (scrN B) c0') (.slice none 0 0) 0 (scrO B + 6 + 4 * 0) := by
      have hk : Keeps (fun _ => False) w w1 := ((Keeps.alloc w _).trans (Keeps.alloc _ _)).trans (Hk1.out.mono fun i _ hi => by subst hi; exact .inr (by omega))
      have hl := lt_of_block (box_old Hz'.out Hk1.out (by omega))
      have hnew : (w1.alloc (.cells #[.int .i64 t0, .slice ad0' (scrN B) c0', .int .i64 t2, .int .i64 t3, .int .i64 t4, .int .i64 t5, .int .i64 (scrDay B 0)] 27)).heap[w1.heap.size]? = some (.cells ((scrTerms B).cells (.slice ad0' (scrN B) c0')) 27 (0, 0)) := by
        rw [Ht.out]; exact heap_alloc_new _ _
      refine ⟨Hr1.out.keeps (Keeps.alloc (S := fun _ => False) _ _) (by simp), box_alloc (box_old Hz'.out Hk1.out (by omega)) _, hnew, Ho1.out.alloc _, World.ownsRow_nil _ _ _ _, hk.trans (Keeps.alloc _ _), fun g hg => ?_, by simp [Value.ownBlock], ?_⟩
      · have := Hn1.out g hg; simp at this; omega
      · obtain ⟨⟨_, _, hb, _⟩, _⟩ := Hr1.out; exact lt_of_block hb
    have hj200 : 0 ≤ scrM B := Nat.zero_le _
    have hcc : 0 ≤ 0 := Nat.le_refl 0
    obtain ⟨T, hT⟩ : ∃ T, T = w1.heap.size := ⟨_, rfl⟩
    obtain ⟨wr, hwr⟩ : ∃ wr, wr = w1.alloc (.cells #[.int .i64 t0, .slice ad0' (scrN B) c0', .int .i64 t2, .int .i64 t3, .int .i64 t4, .int .i64 t5, .int .i64 (scrDay B 0)] 27) := ⟨_, rfl⟩
    rw [← hwr, ← hT] at hds ⊢
    clear hwr hT
    generalize Value.slice ad0' (scrN B) c0' = v0 at hds ⊢
    go_step3
    obtain ⟨adt, ct, rfl, _, _⟩ := ownsRow_shape hds.trs
    have hrb := hds.rb
    obtain ⟨adr, cr, hrb1, _⟩ := hds.rd.ex
    have x0 : (wr).cell? ⟨w.heap.size + 1, 0, none⟩ = some (.slice adr (B.length - (scrO B + 6 + 4 * 0)) cr) := cell_of_cells hrb1 0
    have hday := scrDay_bd HB.out 0
    obtain ⟨day, hdayE⟩ : ∃ day, scrDay B 0 = day := ⟨_, rfl⟩
    rw [hdayE] at hday ⊢
    obtain ⟨hd0, hd1⟩ := hday
    obtain ⟨nl, hnl⟩ : ∃ nl, B.length - (scrO B + 6 + 4 * 0) = nl := ⟨_, rfl⟩
    rw [hnl] at x0
    have hnb : (nl : Int) ≤ 1000000000000 := by have := HB.out.2; omega
    have Hnl := Lib.hid hnl
    have HdayE := Lib.hid hdayE
    have Hds := Lib.hid hds
    clear hrb1 hnl hdayE hds
    by_cases hgo : 0 < nl ∧ 0 < 200
    · obtain ⟨hn0, hj2⟩ := hgo
      have hn0' : (0 : Int) < (nl : Int) := by omega
      obtain ⟨q0, q1, q2, q3, q4, hq⟩ : ∃ q0 q1 q2 q3 q4, cmdAt B day (scrO B + 6 + 4 * 0) = ⟨q0, q1, q2, q3, q4⟩ := ⟨_, _, _, _, _, rfl⟩
      have htk := tickOf_bd HB.out day (scrO B + 6 + 4 * 0)
      rw [hq] at htk
      have hc1 : scrCmds B (0 + 1) = scrCmds B 0 ++ [⟨q0, q1, q2, q3, q4⟩] := by
        show scrCmds B 0 ++ [cmdAt B (scrDay B 0) (scrO B + 6 + 4 * 0)] = _
        rw [HdayE.out, hq]
      have hsd : scrDay B (0 + 1) = day + tickOf ⟨q0, q1, q2, q3, q4⟩ := by
        show scrDay B 0 + tickOf (cmdAt B (scrDay B 0) (scrO B + 6 + 4 * 0)) = _
        rw [HdayE.out, hq]
      have Hq := Lib.hid hq; clear hq; have Hc1 := Lib.hid hc1; clear hc1
      by_cases hk8 : q0 = 8
      · have hq1 : tickOf ⟨q0, q1, q2, q3, q4⟩ = q1 := by unfold tickOf; rw [if_pos hk8]
        rw [hq1] at htk hsd
        obtain ⟨ht0, ht1⟩ := htk
        have Hsd := Lib.hid hsd; clear hsd; have Hq1 := Lib.hid hq1; clear hq1
        subst hk8
        go_wp2_with fail
        refine (rdCommand_at Hds.out.rd HB.out (by omega) (by omega) (by omega) (by omega) Hq.out).mono ?_
        rintro e w2 ⟨rfl, hr, hk⟩
        have Hds2 := Lib.hid (Hds.out.step hr hk)
        clear hr hk
        go_wp2_with (at_builtin; refine wpList_append_row rfl (.tmp 37) (.tmp 39) 28 rfl 0 34 i0 _ 5 40 Try.underlying28 hi hi0 hi1 hi2 rfl (by decide) (.slice none 0 0) 0 _ rfl ((Hds2.out.row.alloc _).alloc _) _ 1 [.int .i64 8, .int .i64 q1, .int .i64 q2, .int .i64 q3, .int .i64 q4] rfl (Reads.litAt _ _ _ _ _ _ (by simp) rfl) (by simp [Value.oneCell']) (by unfold maxLen; omega) (by omega) (by omega) ?_)
        intro v' w4 hown4 hk4 hf4
        have hds4 := (Hds2.out.keep ((Keeps.alloc _ _).trans (Keeps.alloc _ _))).app (c := ⟨8, q1, q2, q3, q4⟩) hown4 Hc1.out hk4 (by simpa using hf4)
        obtain ⟨ad4, c4, rfl, _, _⟩ := ownsRow_shape hown4
        have Hds4 := Lib.hid hds4; clear hds4
        clear hown4 hk4 hf4
        go_wp2
        go_step3
        go_wp2
        first
          | (refine jump_goto ⟨⟨_, _, 0 + 1, _, _, _, _, _, _, _, _, _, _, _, _, _, _, _, _, _, _, _, _, _, _, _, _, _, _, _, _, _, _, _, _, _, _, _, _, _, _, _, by rw [Hsd.out], by simpa [Nat.mul_add, Nat.add_assoc] using Hds4.out, by have := Hnl.out; unfold scrM; omega⟩, by simp [slotLen]; omega⟩)
          | (refine jump_goto ⟨_, _, 0 + 1, _, _, _, _, _, _, _, _, _, _, _, _, _, _, _, _, _, _, _, _, _, _, _, _, _, _, _, _, _, _, _, _, _, _, _, _, _, _, _, by rw [Hsd.out], by simpa [Nat.mul_add, Nat.add_assoc] using Hds4.out, by have := Hnl.out; unfold scrM; omega⟩)
      · have hq1 : tickOf ⟨q0, q1, q2, q3, q4⟩ = 0 := by unfold tickOf; rw [if_neg hk8]
        rw [hq1, Int.add_zero] at hsd
        have hk8' : (q0 == 8) = false := beq_eq_false_iff_ne.2 hk8
        clear htk
        have Hsd := Lib.hid hsd; clear hsd; have Hq1 := Lib.hid hq1; clear hq1
        go_wp2_with fail
        refine (rdCommand_at Hds.out.rd HB.out (by omega) (by omega) (by omega) (by omega) Hq.out).mono ?_
        rintro e w2 ⟨rfl, hr, hk⟩
        have Hds2 := Lib.hid (Hds.out.step hr hk)
        clear hr hk
        go_wp2_with (at_builtin; refine wpList_append_row rfl (.tmp 37) (.tmp 39) 28 rfl 0 34 i0 _ 5 40 Try.underlying28 hi hi0 hi1 hi2 rfl (by decide) (.slice none 0 0) 0 _ rfl ((Hds2.out.row.alloc _).alloc _) _ 1 [.int .i64 q0, .int .i64 q1, .int .i64 q2, .int .i64 q3, .int .i64 q4] rfl (Reads.litAt _ _ _ _ _ _ (by simp) rfl) (by simp [Value.oneCell']) (by unfold maxLen; omega) (by omega) (by omega) ?_)
        intro v' w4 hown4 hk4 hf4
        have hds4 := (Hds2.out.keep ((Keeps.alloc _ _).trans (Keeps.alloc _ _))).app (c := ⟨q0, q1, q2, q3, q4⟩) hown4 Hc1.out hk4 (by simpa using hf4)
        obtain ⟨ad4, c4, rfl, _, _⟩ := ownsRow_shape hown4
        have Hds4 := Lib.hid hds4; clear hds4
        clear hown4 hk4 hf4
        go_wp2
        go_step3
        go_wp2
        first
          | (refine jump_goto ⟨⟨_, _, 0 + 1, _, _, _, _, _, _, _, _, _, _, _, _, _, _, _, _, _, _, _, _, _, _, _, _, _, _, _, _, _, _, _, _, _, _, _, _, _, _, _, by rw [Hsd.out], by simpa [Nat.mul_add, Nat.add_assoc] using Hds4.out, by have := Hnl.out; unfold scrM; omega⟩, by simp [slotLen]; omega⟩)
          | (refine jump_goto ⟨_, _, 0 + 1, _, _, _, _, _, _, _, _, _, _, _, _, _, _, _, _, _, _, _, _, _, _, _, _, _, _, _, _, _, _, _, _, _, _, _, _, _, _, _, by rw [Hsd.out], by simpa [Nat.mul_add, Nat.add_assoc] using Hds4.out, by have := Hnl.out; unfold scrM; omega⟩)
    · have hjM : 0 = scrM B := by have := Hnl.out; unfold scrM at hj200 ⊢; omega
      have hgo' : nl = 0 ∨ (0 < nl ∧ 200 ≤ 0) := by omega
      clear hgo
      have hblk := Hds.out.blk
      have hres := Hds.out.res
      obtain ⟨t0, t2, t3, t4, t5, t6, ht⟩ : ∃ t0 t2 t3 t4 t5 t6 : Int, (scrTerms B).cells (.slice adt (scrN B) ct) = #[.int .i64 t0, .slice adt (scrN B) ct, .int .i64 t2, .int .i64 t3, .int .i64 t4, .int .i64 t5, .int .i64 t6] := ⟨_, _, _, _, _, _, rfl⟩
      rw [ht] at hblk
      unfold zTm at hres
      have b0 := cell_of_cells hblk 0
      have b1 := cell_of_cells hblk 1
      have b2 := cell_of_cells hblk 2
      have b3 := cell_of_cells hblk 3
      have b4 := cell_of_cells hblk 4
      have b5 := cell_of_cells hblk 5
      have b6 := cell_of_cells hblk 6
      have r0 := cell_of_cells hres 0
      have r1 := cell_of_cells hres 1
      have r2 := cell_of_cells hres 2
      have r3 := cell_of_cells hres 3
      have r4 := cell_of_cells hres 4
      have r5 := cell_of_cells hres 5
      have r6 := cell_of_cells hres 6
      have rf := free_of_cells hres
      have rl := lt_of_block hres
      have Hend := Lib.hid (dec_end Hds.out hjM ht)
      have HjM := Lib.hid hjM
      clear hblk hres ht hjM
      rcases hgo' with hgo' | ⟨hgo', hgo2⟩
      · subst hgo'
        go_wp2
        refine jump_ret ?_
        exact bodyPost_ret (v := .tuple #[.agg #[.int .i64 t0, .slice adt (scrN B) ct, .int .i64 t2, .int .i64 t3, .int .i64 t4, .int .i64 t5, .int .i64 t6], .slice none 0 0]) (by simp [results, Try.results11, go_sem, r0, r1, r2, r3, r4, r5, r6, rl]) rfl (Hend.out _ _ _ _ _ _ _)
      · first
        | (exfalso; omega)
        | (have hn0' : (0 : Int) < (nl : Int) := by omega
           go_wp2
           refine jump_ret ?_
           exact bodyPost_ret (v := .tuple #[.agg #[.int .i64 t0, .slice adt (scrN B) ct, .int .i64 t2, .int .i64 t3, .int .i64 t4, .int .i64 t5, .int .i64 t6], .slice none 0 0]) (by simp [results, Try.results11, go_sem, r0, r1, r2, r3, r4, r5, r6, rl]) rfl (Hend.out _ _ _ _ _ _ _))
  · rintro a' wr ⟨T, v0, j, v, u0, u1, u3, u8, u9, u10, u11, u12, u13, u14, u15, u16, u17, u18, u19, u20, u21, u22, u23, u24, u25, u26, u27, u28, u29, u30, u31, u32, u33, u34, u35, u36, u37, u38, u39, u40, u41, u42, rfl, hds, hj200⟩
    obtain ⟨ad0, c0, rfl, hcc, _⟩ := ownsRow_shape hds.row
    obtain ⟨adt, ct, rfl, _, _⟩ := ownsRow_shape hds.trs
    have hrb := hds.rb
    obtain ⟨adr, cr, hrb1, _⟩ := hds.rd.ex
    have x0 : (wr).cell? ⟨w.heap.size + 1, 0, none⟩ = some (.slice adr (B.length - (scrO B + 6 + 4 * j)) cr) := cell_of_cells hrb1 0
    have hday := scrDay_bd HB.out j
    obtain ⟨day, hdayE⟩ : ∃ day, scrDay B j = day := ⟨_, rfl⟩
    rw [hdayE] at hday ⊢
    obtain ⟨hd0, hd1⟩ := hday
    obtain ⟨nl, hnl⟩ : ∃ nl, B.length - (scrO B + 6 + 4 * j) = nl := ⟨_, rfl⟩
    rw [hnl] at x0
    have hnb : (nl : Int) ≤ 1000000000000 := by have := HB.out.2; omega
    have Hnl := Lib.hid hnl
    have HdayE := Lib.hid hdayE
    have Hds := Lib.hid hds
    clear hrb1 hnl hdayE hds
    by_cases hgo : 0 < nl ∧ j < 200
    · obtain ⟨hn0, hj2⟩ := hgo
      have hn0' : (0 : Int) < (nl : Int) := by omega
      obtain ⟨q0, q1, q2, q3, q4, hq⟩ : ∃ q0 q1 q2 q3 q4, cmdAt B day (scrO B + 6 + 4 * j) = ⟨q0, q1, q2, q3, q4⟩ := ⟨_, _, _, _, _, rfl⟩
      have htk := tickOf_bd HB.out day (scrO B + 6 + 4 * j)
      rw [hq] at htk
      have hc1 : scrCmds B (j + 1) = scrCmds B j ++ [⟨q0, q1, q2, q3, q4⟩] := by
        show scrCmds B j ++ [cmdAt B (scrDay B j) (scrO B + 6 + 4 * j)] = _
        rw [HdayE.out, hq]
      have hsd : scrDay B (j + 1) = day + tickOf ⟨q0, q1, q2, q3, q4⟩ := by
        show scrDay B j + tickOf (cmdAt B (scrDay B j) (scrO B + 6 + 4 * j)) = _
        rw [HdayE.out, hq]
      have Hq := Lib.hid hq; clear hq; have Hc1 := Lib.hid hc1; clear hc1
      by_cases hk8 : q0 = 8
      · have hq1 : tickOf ⟨q0, q1, q2, q3, q4⟩ = q1 := by unfold tickOf; rw [if_pos hk8]
        rw [hq1] at htk hsd
        obtain ⟨ht0, ht1⟩ := htk
        have Hsd := Lib.hid hsd; clear hsd; have Hq1 := Lib.hid hq1; clear hq1
        subst hk8
        go_wp2_with fail
        refine (rdCommand_at Hds.out.rd HB.out (by omega) (by omega) (by omega) (by omega) Hq.out).mono ?_
        rintro e w2 ⟨rfl, hr, hk⟩
        have Hds2 := Lib.hid (Hds.out.step hr hk)
        clear hr hk
        go_wp2_with (at_builtin; refine wpList_append_row rfl (.tmp 37) (.tmp 39) 28 rfl 0 34 i0 _ 5 40 Try.underlying28 hi hi0 hi1 hi2 rfl (by decide) (.slice ad0 j c0) j _ rfl ((Hds2.out.row.alloc _).alloc _) _ 1 [.int .i64 8, .int .i64 q1, .int .i64 q2, .int .i64 q3, .int .i64 q4] rfl (Reads.litAt _ _ _ _ _ _ (by simp) rfl) (by simp [Value.oneCell']) (by unfold maxLen; omega) (by omega) (by omega) ?_)
        intro v' w4 hown4 hk4 hf4
        have hds4 := (Hds2.out.keep ((Keeps.alloc _ _).trans (Keeps.alloc _ _))).app (c := ⟨8, q1, q2, q3, q4⟩) hown4 Hc1.out hk4 (by simpa using hf4)
        obtain ⟨ad4, c4, rfl, _, _⟩ := ownsRow_shape hown4
        have Hds4 := Lib.hid hds4; clear hds4
        clear hown4 hk4 hf4
        go_wp2
        go_step3
        go_wp2
        first
          | (refine jump_goto ⟨⟨_, _, j + 1, _, _, _, _, _, _, _, _, _, _, _, _, _, _, _, _, _, _, _, _, _, _, _, _, _, _, _, _, _, _, _, _, _, _, _, _, _, _, _, by rw [Hsd.out], by simpa [Nat.mul_add, Nat.add_assoc] using Hds4.out, by have := Hnl.out; unfold scrM; omega⟩, by simp [slotLen]; omega⟩)
          | (refine jump_goto ⟨_, _, j + 1, _, _, _, _, _, _, _, _, _, _, _, _, _, _, _, _, _, _, _, _, _, _, _, _, _, _, _, _, _, _, _, _, _, _, _, _, _, _, _, by rw [Hsd.out], by simpa [Nat.mul_add, Nat.add_assoc] using Hds4.out, by have := Hnl.out; unfold scrM; omega⟩)
      · have hq1 : tickOf ⟨q0, q1, q2, q3, q4⟩ = 0 := by unfold tickOf; rw [if_neg hk8]
        rw [hq1, Int.add_zero] at hsd
        have hk8' : (q0 == 8) = false := beq_eq_false_iff_ne.2 hk8
        clear htk
        have Hsd := Lib.hid hsd; clear hsd; have Hq1 := Lib.hid hq1; clear hq1
        go_wp2_with fail
        refine (rdCommand_at Hds.out.rd HB.out (by omega) (by omega) (by omega) (by omega) Hq.out).mono ?_
        rintro e w2 ⟨rfl, hr, hk⟩
        have Hds2 := Lib.hid (Hds.out.step hr hk)
        clear hr hk
        go_wp2_with (at_builtin; refine wpList_append_row rfl (.tmp 37) (.tmp 39) 28 rfl 0 34 i0 _ 5 40 Try.underlying28 hi hi0 hi1 hi2 rfl (by decide) (.slice ad0 j c0) j _ rfl ((Hds2.out.row.alloc _).alloc _) _ 1 [.int .i64 q0, .int .i64 q1, .int .i64 q2, .int .i64 q3, .int .i64 q4] rfl (Reads.litAt _ _ _ _ _ _ (by simp) rfl) (by simp [Value.oneCell']) (by unfold maxLen; omega) (by omega) (by omega) ?_)
        intro v' w4 hown4 hk4 hf4
        have hds4 := (Hds2.out.keep ((Keeps.alloc _ _).trans (Keeps.alloc _ _))).app (c := ⟨q0, q1, q2, q3, q4⟩) hown4 Hc1.out hk4 (by simpa using hf4)
        obtain ⟨ad4, c4, rfl, _, _⟩ := ownsRow_shape hown4
        have Hds4 := Lib.hid hds4; clear hds4
        clear hown4 hk4 hf4
        go_wp2
        go_step3
        go_wp2
        first
          | (refine jump_goto ⟨⟨_, _, j + 1, _, _, _, _, _, _, _, _, _, _, _, _, _, _, _, _, _, _, _, _, _, _, _, _, _, _, _, _, _, _, _, _, _, _, _, _, _, _, _, by rw [Hsd.out], by simpa [Nat.mul_add, Nat.add_assoc] using Hds4.out, by have := Hnl.out; unfold scrM; omega⟩, by simp [slotLen]; omega⟩)
          | (refine jump_goto ⟨_, _, j + 1, _, _, _, _, _, _, _, _, _, _, _, _, _, _, _, _, _, _, _, _, _, _, _, _, _, _, _, _, _, _, _, _, _, _, _, _, _, _, _, by rw [Hsd.out], by simpa [Nat.mul_add, Nat.add_assoc] using Hds4.out, by have := Hnl.out; unfold scrM; omega⟩)
    · have hjM : j = scrM B := by have := Hnl.out; unfold scrM at hj200 ⊢; omega
      have hgo' : nl = 0 ∨ (0 < nl ∧ 200 ≤ j) := by omega
      clear hgo
      have hblk := Hds.out.blk
      have hres := Hds.out.res
      obtain ⟨t0, t2, t3, t4, t5, t6, ht⟩ : ∃ t0 t2 t3 t4 t5 t6 : Int, (scrTerms B).cells (.slice adt (scrN B) ct) = #[.int .i64 t0, .slice adt (scrN B) ct, .int .i64 t2, .int .i64 t3, .int .i64 t4, .int .i64 t5, .int .i64 t6] := ⟨_, _, _, _, _, _, rfl⟩
      rw [ht] at hblk
      unfold zTm at hres
      have b0 := cell_of_cells hblk 0
      have b1 := cell_of_cells hblk 1
      have b2 := cell_of_cells hblk 2
      have b3 := cell_of_cells hblk 3
      have b4 := cell_of_cells hblk 4
      have b5 := cell_of_cells hblk 5
      have b6 := cell_of_cells hblk 6
      have r0 := cell_of_cells hres 0
      have r1 := cell_of_cells hres 1
      have r2 := cell_of_cells hres 2
      have r3 := cell_of_cells hres 3
      have r4 := cell_of_cells hres 4
      have r5 := cell_of_cells hres 5
      have r6 := cell_of_cells hres 6
      have rf := free_of_cells hres
      have rl := lt_of_block hres
      have Hend := Lib.hid (dec_end Hds.out hjM ht)
      have HjM := Lib.hid hjM
      clear hblk hres ht hjM
      rcases hgo' with hgo' | ⟨hgo', hgo2⟩
      · subst hgo'
        go_wp2
        refine jump_ret ?_
        exact bodyPost_ret (v := .tuple #[.agg #[.int .i64 t0, .slice adt (scrN B) ct, .int .i64 t2, .int .i64 t3, .int .i64 t4, .int .i64 t5, .int .i64 t6], .slice ad0 j c0]) (by simp [results, Try.results11, go_sem, r0, r1, r2, r3, r4, r5, r6, rl]) rfl (Hend.out _ _ _ _ _ _ _)
      · first
        | (exfalso; omega)
        | (have hn0' : (0 : Int) < (nl : Int) := by omega
           go_wp2
           refine jump_ret ?_
           exact bodyPost_ret (v := .tuple #[.agg #[.int .i64 t0, .slice adt (scrN B) ct, .int .i64 t2, .int .i64 t3, .int .i64 t4, .int .i64 t5, .int .i64 t6], .slice ad0 j c0]) (by simp [results, Try.results11, go_sem, r0, r1, r2, r3, r4, r5, r6, rl]) rfl (Hend.out _ _ _ _ _ _ _))
end Go.Proofs.Ythokcmbgamanbaa
