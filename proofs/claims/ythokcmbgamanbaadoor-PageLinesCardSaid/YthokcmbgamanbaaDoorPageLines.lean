/- PageLines: the text has a line for the cycle, for what is due, for each tranche, for the total, and one more where there was grace. -/
import Derived.Test.YthokcmbgamanbaaDoorPagePacks
namespace Go.Proofs.YthokcmbgamanbaaDoor
open Go.RowKit
def plL (n : Nat) : List Ln := (List.range n).map fun (i : Nat) => ⟨(i : Int), 0, 5⟩
def plT : Nat → Int
  | 0 => 0
  | n + 1 => plT n + n
def plS (n : Nat) (g : Bool) : Stm := ⟨1, 10957, 10987, 11000, plT n, 0, 0, g, plL n⟩
theorem plL_len (n : Nat) : (plL n).length = n := by simp [plL]
theorem plL_succ (n : Nat) : plL (n + 1) = plL n ++ [⟨(n : Int), 0, 5⟩] := by simp [plL, List.range_succ]
theorem plS_right {n : Nat} (g : Bool) (h1 : 1 ≤ n) (h2 : n ≤ 8) : (plS n g).rightB = true := by
  obtain rfl | rfl | rfl | rfl | rfl | rfl | rfl | rfl : n = 1 ∨ n = 2 ∨ n = 3 ∨ n = 4 ∨ n = 5 ∨ n = 6 ∨ n = 7 ∨ n = 8 := by omega
  all_goals (rcases g <;> kernel_rfl)
/-- The statement that is made, so many tranches in. -/
structure PL (w : World) (b k : Nat) (gr : Bool) (W : World) : Prop where
  kp : Keeps (fun _ => False) w W
  nb : w.heap.size ≤ b
  ex : ∃ ad cap, stB b (plS k gr) (.slice ad k cap) W ∧ W.ownsRow 0 30 3 (.slice ad k cap) k ((plL k).flatMap Ln.cells) ∧ (∀ g, (Value.slice ad k cap).ownBlock = some g → w.heap.size ≤ g)
set_option maxRecDepth 100000 in
set_option maxHeartbeats 3200000 in
theorem pageLines_walk (w : World) (a : Int) (ha : (Lit.int .i64 a).wf = true) (gr : Bool) (ht : Tab w) : Calls Tryd.prog 4 #[.int .i64 a, .bool gr] w fun e w' => e = .returned (.bool true) ∧ Below w.heap.size w w' := by
  obtain ⟨m, hm8, hm⟩ : ∃ m : Nat, m < 8 ∧ wrap64 ((IntKind.u64.wrap a).tmod 8) = (m : Int) := by
    obtain ⟨k, h1, h2⟩ := umod a 8 (by omega) (by omega)
    exact ⟨k, by omega, h2⟩
  obtain ⟨i0, hi, hi0, hi1, hi2⟩ := info_parts info_tLine
  have ho := one20_any w
  have Ha := Lib.hid ha; clear ha; have Ho := Lib.hid ho; clear ho
  go_enter Tryd.func4, Tryd.ntmps4
  go_wp2_with fail
  refine Ho.out.mono ?_
  rintro e w1 ⟨ad1, cap1, rfl, _, hk1⟩
  have hb1 := heap_alloc_new w1 (.cells #[.int .i64 1, .int .i64 10957, .int .i64 10987, .int .i64 11000, .slice ad1 1 cap1, .int .i64 5, .int .i64 0, .int .i64 5, .bool true] 26)
  have hst : PL w w1.heap.size 0 gr (w1.alloc (.cells #[.int .i64 1, .int .i64 10957, .int .i64 10987, .int .i64 11000, .slice none 0 0, .int .i64 0, .int .i64 0, .int .i64 0, .bool gr] 26)) :=
    ⟨hk1.nt (Keeps.alloc _ _), hk1.size, none, 0, heap_alloc_new w1 _, World.ownsRow_nil _ _ _ _, fun g hg => by cases hg⟩
  obtain ⟨b, hb⟩ : ∃ b, b = w1.heap.size := ⟨_, rfl⟩
  rw [← hb] at hst
  have Hk1 := Lib.hid hk1; clear hk1; have Hst := Lib.hid hst; clear hst
  go_upto_region 5 with fail
  rw [← hb]
  have Hb := Lib.hid hb
  clear hb hb1
  go_loopw [6] (fun x6 wr => ∃ k : Nat, x6 = .int .i64 (k : Nat) ∧ k ≤ 1 + m ∧ Hid (PL w b k gr wr)) (fun x6 _ => 1 + m - (intOf x6).toNat)
  case atStart => exact ⟨0, rfl, by omega, Hst⟩
  case round =>
    obtain ⟨k, rfl, hk, HP⟩ := hrel
    obtain ⟨w2, hw2⟩ : ∃ x, x = wr := ⟨_, rfl⟩
    subst hw2
    obtain ⟨hkp, hnb, ad, cap, hbx, hrow, hnw⟩ := HP.out
    by_cases hlt : k < 1 + m
    · have hltI : (k : Int) < 1 + (m : Int) := by omega
      obtain ⟨p0, p1, p2, p3, p4, p5, p6, p7, p8⟩ := hbx.c
      have pl := lt_of_block hbx
      have pf4 := free_of_cells hbx 4
      have pf5 := free_of_cells hbx 5
      have Hkp := Lib.hid hkp; clear hkp; have Hnb := Lib.hid hnb; clear hnb; have Hbx := Lib.hid hbx; clear hbx; have Hrow := Lib.hid hrow; clear hrow; have Hnw := Lib.hid hnw; clear hnw
      go_wp2_with (at_builtin; refine wpList_append_row rfl (.tmp 30) (.tmp 33) 24 rfl 0 30 i0 _ 3 24 Tryd.underlying24 hi hi0 hi1 hi2 rfl (by decide) (.slice ad k cap) k _ rfl ((Hrow.out).alloc _) _ 1 _ rfl (Reads.litAt _ _ _ 3 1 _ (by first | rfl | simp) rfl) (by simp [Value.oneCell']) (by unfold maxLen; omega) (by omega) (Nat.zero_le _) ?_; intro v4 w4 hown4 hk4 hf4; refine haltD ?_)
      refine Lib.hid ?_
      have hkq : Keeps (fun i => (Value.slice ad k cap).ownBlock = some i) w2 w4 := ⟨hk4.os, hk4.tape, hk4.output, Nat.le_trans (by simp) hk4.size, fun i h1 h2 => (hk4.block i (by simp; omega) h2).trans (Below.heap_alloc _ _ _ h1)⟩
      have hbx4 : stB b (plS k gr) (.slice ad k cap) w4 := box_old Hbx.out hkq (fun e => ownsRow_ne Hrow.out Hbx.out (by decide) e)
      have hown5 : w4.ownsRow 0 30 3 v4 (k + 1) ((plL (k + 1)).flatMap Ln.cells) := by rw [plL_succ, List.flatMap_append]; exact hown4
      have hnw4 : ∀ g, v4.ownBlock = some g → w.heap.size ≤ g := fun g hg => by
        rcases hf4 with e | ⟨g', e, hg'⟩
        · exact Hnw.out g (by rw [← e]; exact hg)
        · rw [e] at hg; simp only [Option.some.injEq] at hg; have h1 := Hkp.out.size; simp at hg'; omega
      have hkp4 : Keeps (fun _ => False) w w4 := Hkp.out.trans (hkq.mono fun i _ e => .inr (Hnw.out i e))
      obtain ⟨ad4, cap4, rfl, _, _⟩ := ownsRow_shape hown4
      clear p0 p1 p2 p3 p4 p5 p6 p7 p8 pl pf4 pf5
      obtain ⟨p0, p1, p2, p3, p4, p5, p6, p7, p8⟩ := hbx4.c
      have pl := lt_of_block hbx4
      have pf4 := free_of_cells hbx4 4
      have pf5 := free_of_cells hbx4 5
      have hpt : -1000 ≤ (plS k gr).total ∧ (plS k gr).total ≤ 1000 := by
        show -1000 ≤ plT k ∧ plT k ≤ 1000
        have hk8 : k ≤ 8 := by omega
        obtain rfl | rfl | rfl | rfl | rfl | rfl | rfl | rfl | rfl : k = 0 ∨ k = 1 ∨ k = 2 ∨ k = 3 ∨ k = 4 ∨ k = 5 ∨ k = 6 ∨ k = 7 ∨ k = 8 := by omega
        all_goals (constructor <;> decide)
      obtain ⟨h1, h2⟩ := hpt
      clear hown4 hk4 hf4
      have hne : ∀ i, (Value.slice ad4 (k + 1) cap4).ownBlock = some i → ¬ i = b := fun i e => by rintro rfl; exact ownsRow_ne hown5 hbx4 (by decide) e
      have Hkq := Lib.hid hkq; clear hkq; have Hbx4 := Lib.hid hbx4; clear hbx4; have Hown5 := Lib.hid hown5; clear hown5; have Hnw4 := Lib.hid hnw4; clear hnw4; have Hkp4 := Lib.hid hkp4; clear hkp4; have Hne := Lib.hid hne; clear hne
      go_wp2_with fail
      go_roundw
      case rel =>
        refine ⟨k + 1, by go_num, by omega, Lib.hid ⟨?_, Hnb.out, ad4, cap4, ?_, ?_, Hnw4.out⟩⟩
        · exact (Hkp4.out.trans (Keeps.setCell _ _ _ (.inr Hnb.out))).trans (Keeps.setCell _ _ _ (.inr Hnb.out))
        · exact heap_setCell_same _ _ 5 _ _ _ (heap_setCell_same _ _ 4 _ _ _ Hbx4.out)
        · exact (Keeps.setCell (S := fun i => i = b) _ _ _ rfl).row ((Keeps.setCell (S := fun i => i = b) _ _ _ rfl).row Hown5.out Hne.out) Hne.out
      case measure => simp [intOf]; omega
    · obtain rfl : k = 1 + m := by omega
      have hrt := plS_right gr (n := 1 + m) (by omega) (by omega)
      have hln : (plS (1 + m) gr).lines.length = 1 + m := plL_len _
      obtain ⟨p0, p1, p2, p3, p4, p5, p6, p7, p8⟩ := hbx.c
      have pl := lt_of_block hbx
      have htt := pageText_at (w := w2) (s := plS (1 + m) gr) (v := .slice ad (1 + m) cap) (by rw [hln]; exact Reads.of_owns hrow) (by rw [hln]; omega) (ht.keeps hkp)
      have h10 := stmT_10 hrt
      have hbd := stmT_bd hrt
      have hon := stmT_one hrt rfl
      have hup : (stmT (plS (1 + m) gr)).length ≤ 2000 := by
        have hR := Stm.right_of hrt
        have h1 := headT_bd hR
        have h2 := dueT_bd hR
        have h3 := rowsT_bd hR.len.2 (fun x hx => (Ln.ok_iff x).2 (hR.lines x hx)) (plS (1 + m) gr).lines.length (Nat.le_refl _)
        have h4 := totT_bd hR
        have h5 : (if gr = true then wGrace else []).length ≤ 6 := by rcases gr <;> decide
        unfold stmT
        rw [if_pos hrt]
        simp only [List.length_append]
        have h6 : (if (plS (1 + m) gr).grace = true then wGrace else []).length ≤ 6 := h5
        have h7 := hR.len.2
        omega
      obtain ⟨tl, htl⟩ : ∃ l, stmT (plS (1 + m) gr) = l := ⟨_, rfl⟩
      rw [htl] at htt h10 hbd hon hup
      rw [hln] at h10
      have hsz := tx_size tl
      obtain ⟨X, hX⟩ : ∃ X, tx tl = X := ⟨_, rfl⟩
      rw [hX] at htt hsz
      have Hkp := Lib.hid hkp; clear hkp; have Hnb := Lib.hid hnb; clear hnb; have Hbx := Lib.hid hbx; clear hbx; have Hrow := Lib.hid hrow; clear hrow; have Hnw := Lib.hid hnw; clear hnw; have Hrt := Lib.hid hrt; clear hrt; have Hln := Lib.hid hln; clear hln; have Htt := Lib.hid htt; clear htt; have H10 := Lib.hid h10; clear h10; have Hbd := Lib.hid hbd; clear hbd; have Hon := Lib.hid hon; clear hon; have Hup := Lib.hid hup; clear hup; have Htl := Lib.hid htl; clear htl; have Hsz := Lib.hid hsz; clear hsz; have HX := Lib.hid hX; clear hX
      go_wp2_with fail
      refine Htt.out.mono ?_
      rintro e w3 ⟨rfl, hk3⟩
      have hbx3 := Hbx.out.keep hk3
      have hkp3 := Hkp.out.nt hk3
      have hrow3 := hk3.row Hrow.out (by simp)
      have hs1 : 40 < X.size := by rw [Hsz.out]; exact Hbd.out
      have hs2 : X.size ≤ 2000 := by rw [Hsz.out]; exact Hup.out
      clear p0 p1 p2 p3 p4 p5 p6 p7 p8 pl
      have Hk3 := Lib.hid hk3; clear hk3; have Hbx3 := Lib.hid hbx3; clear hbx3; have Hkp3 := Lib.hid hkp3; clear hkp3; have Hrow3 := Lib.hid hrow3; clear hrow3
      go_upto_region 12 with fail
      go_loopw [8, 9] (fun x8 x9 wr => ∃ j : Nat, x9 = .int .i64 (j : Nat) ∧ x8 = .int .i64 ((tl.take j).count 10 : Nat) ∧ j ≤ X.size ∧ wr = w3) (fun _ x9 _ => X.size - (intOf x9).toNat)
      case atStart => exact ⟨0, rfl, rfl, by omega, rfl⟩
      case round =>
        obtain ⟨j, rfl, rfl, hj, rfl⟩ := hrel
        by_cases hjl : j < X.size
        · have hjI : (j : Int) < (X.size : Int) := by omega
          obtain ⟨z, hz⟩ : ∃ z, X[j]'hjl = z := ⟨_, rfl⟩
          have hjt : j < tl.length := by rw [← Hsz.out]; exact hjl
          have hzl : tl[j]? = some z := by
            rw [List.getElem?_eq_getElem hjt, ← hz]
            have hX := HX.out
            subst hX
            simp [tx]
            rfl
          have hsn : (tl.take (j + 1)).count 10 = (tl.take j).count 10 + (if z = 10 then 1 else 0) := by
            rw [take_snoc' hzl, List.count_append]
            simp [List.count_cons]
          have hcl : (tl.take j).count 10 ≤ j := Nat.le_trans List.count_le_length (by rw [List.length_take]; omega)
          obtain ⟨c, hc⟩ : ∃ c, (tl.take j).count 10 = c := ⟨_, rfl⟩
          rw [hc] at hsn hcl
          rw [hc]
          by_cases h : z = 10
          · rw [if_pos h] at hsn
            have h0 : ((z.toNat : Int) == 10) = true := by rw [h]; rfl
            clear h
            have Hzl := Lib.hid hzl; clear hzl; have Hsn := Lib.hid hsn; clear hsn; have Hc := Lib.hid hc; clear hc
            go_wp2_with fail
            go_roundw
            case rel => exact ⟨j + 1, by go_num, by rw [Hsn.out]; go_num, by omega, trivial⟩
            case measure => simp [intOf]; omega
          · rw [if_neg h] at hsn
            have h0 : ((z.toNat : Int) == 10) = false := by
              rw [beq_eq_false_iff_ne]
              intro e
              apply h
              apply UInt8.toNat_inj.1
              have : (10 : UInt8).toNat = 10 := rfl
              omega
            clear h
            have Hzl := Lib.hid hzl; clear hzl; have Hsn := Lib.hid hsn; clear hsn; have Hc := Lib.hid hc; clear hc
            go_wp2_with fail
            go_roundw
            case rel => exact ⟨j + 1, by go_num, by rw [Hsn.out]; go_num, by omega, trivial⟩
            case measure => simp [intOf]; omega
        · obtain rfl : j = X.size := by omega
          have hct : (tl.take X.size).count 10 = 4 + m + (if gr = true then 1 else 0) := by
            rw [List.take_of_length_le (by rw [← Hsz.out]; exact Nat.le_refl _), H10.out]
            show 1 + m + 3 + (if gr = true then 1 else 0) = _
            omega
          rw [hct]
          obtain ⟨Y, hY⟩ : ∃ Y, packB (plS (1 + m) gr) = Y := ⟨_, rfl⟩
          have hYl : Y.length = 72 + 24 * (1 + m) := by
            rw [← hY, packB, if_pos Hrt.out, packN_length, Stm.nums_length, Hln.out]; omega
          have hY6 : Y[63]? = some (if gr = true then 1 else 0) := by
            rw [← hY, packB, if_pos Hrt.out]
            rcases gr <;> rfl
          have hpe : packErr (plS (1 + m) gr) = 0 := by unfold packErr; rw [Hrt.out]; rfl
          have hpp := pagePack_at (s := plS (1 + m) gr) (w := wr) (ad := ad) (cap := cap) (by rw [Hln.out]; exact Reads.of_owns Hrow3.out) (by rw [Hln.out]; omega) hY hpe hYl
          rw [Hln.out] at hpp
          obtain ⟨p0, p1, p2, p3, p4, p5, p6, p7, p8⟩ := Hbx3.out.c
          have pl := lt_of_block Hbx3.out
          have hex : (X.extract 0 8).toList = [99, 121, 99, 108, 101, 32, 49, 32] := by
            have h1 : X.extract 0 8 = tx (tl.take 8) := by
              rw [← HX.out]
              apply ByteArray.ext
              rw [ByteArray.data_extract]
              simp [tx]
            rw [h1, Hon.out]
            exact (Lib.toList_data _).trans rfl
          have Hct := Lib.hid hct; clear hct; have HY := Lib.hid hY; clear hY; have HYl := Lib.hid hYl; clear hYl; have HY6 := Lib.hid hY6; clear hY6; have Hpe := Lib.hid hpe; clear hpe; have Hpp := Lib.hid hpp; clear hpp; have Hex := Lib.hid hex; clear hex
          rcases gr with _ | _
          · skip
            go_wp2_with fail
            refine Hpp.out.mono ?_
            rintro e w4 ⟨adx, capx, rfl, hrx, hcx, hk4⟩
            have hrx' : Reads w4 1 (.slice adx (72 + 24 * (1 + m)) capx) (72 + 24 * (1 + m)) (Y.flatMap fun z => [Value.int .u8 z]) := hrx
            obtain ⟨g, o, rfl, y63⟩ := hrx'.int HY6.out
            clear p0 p1 p2 p3 p4 p5 p6 p7 p8 pl hrx hrx'
            have yl := cell_lt y63
            have hi63 : (63 : Int) < ((72 + 24 * (1 + m) : Nat) : Int) := by omega
            have hex := Hex.out
            have Hk4 := Lib.hid hk4; clear hk4
            go_wp2_with (go_at_call 8; refine (awake20_any _).mono ?_; rintro e w5 ⟨rfl, hk5⟩; have hz := (hk5.cell yl (by simp)).trans y63; clear y63; have zl := cell_lt hz; have Hk5 := Lib.hid hk5; clear hk5)
            go_ret
            exact ⟨rfl, ((Hkp3.out.nt Hk4.out).nt Hk5.out).below (by simp) (Nat.le_refl _)⟩
          · skip
            go_wp2_with fail
            refine Hpp.out.mono ?_
            rintro e w4 ⟨adx, capx, rfl, hrx, hcx, hk4⟩
            have hrx' : Reads w4 1 (.slice adx (72 + 24 * (1 + m)) capx) (72 + 24 * (1 + m)) (Y.flatMap fun z => [Value.int .u8 z]) := hrx
            obtain ⟨g, o, rfl, y63⟩ := hrx'.int HY6.out
            clear p0 p1 p2 p3 p4 p5 p6 p7 p8 pl hrx hrx'
            have yl := cell_lt y63
            have hi63 : (63 : Int) < ((72 + 24 * (1 + m) : Nat) : Int) := by omega
            have hex := Hex.out
            have Hk4 := Lib.hid hk4; clear hk4
            go_wp2_with (go_at_call 8; refine (awake20_any _).mono ?_; rintro e w5 ⟨rfl, hk5⟩; have hz := (hk5.cell yl (by simp)).trans y63; clear y63; have zl := cell_lt hz; have Hk5 := Lib.hid hk5; clear hk5)
            go_ret
            exact ⟨rfl, ((Hkp3.out.nt Hk4.out).nt Hk5.out).below (by simp) (Nat.le_refl _)⟩
end Go.Proofs.YthokcmbgamanbaaDoor
