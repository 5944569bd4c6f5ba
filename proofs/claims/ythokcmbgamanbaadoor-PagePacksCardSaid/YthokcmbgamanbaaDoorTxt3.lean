/- The walks of texts: the document's, and what is no statement. -/
import Derived.Test.YthokcmbgamanbaaDoorTxt2
import Derived.Test.YthokcmbgamanbaaDoorPage3
namespace Go.Proofs.YthokcmbgamanbaaDoor
open Go.RowKit
set_option maxRecDepth 100000 in
set_option maxHeartbeats 800000 in
theorem pageText_wrong (s : Stm) (ad : Option Addr) (cap : Nat) (w : World) (hr : Reads w 3 (.slice ad s.lines.length cap) s.lines.length (s.lines.flatMap Ln.cells)) (hl : s.lines.length ≤ 1000000) (hw : s.rightB = false) :
    Calls Tryd.prog 10 #[s.val (.slice ad s.lines.length cap)] w fun e w' => e = .returned (.string (tx (stmT s))) ∧ Keeps (fun _ => False) w w' := by
    have hright := pageRight_any s ad cap (w.alloc (.cells #[.int .i64 s.cycle, .int .i64 s.fr, .int .i64 s.te, .int .i64 s.due, .slice ad s.lines.length cap, .int .i64 s.total, .int .i64 s.credit, .int .i64 s.min, .bool s.grace] 26)) (hr.alloc _) hl
    rw [hw] at hright
    have hf : stmT s = [] := by unfold stmT; rw [hw]; rfl
    rw [hf]
    obtain ⟨cy, fr, te, du, tot, cr, mi, gr, L⟩ := s
    simp only [Stm.val] at hright hr ⊢
    have Hr := Lib.hid hr; clear hr; have Hright := Lib.hid hright; clear hright; have Hw := Lib.hid hw; clear hw; have Hf := Lib.hid hf; clear hf
    go_enter Tryd.func10, Tryd.ntmps10
    go_wp2_with (go_at_call 9; refine Hright.out.mono ?_; rintro e w1 ⟨rfl, hk⟩; have Hk := Lib.hid hk; clear hk)
    go_ret
    exact ⟨rfl, (Keeps.alloc w _).nt Hk.out⟩
set_option maxRecDepth 100000 in
set_option maxHeartbeats 800000 in
theorem rpageText_wrong (s : Stm) (ad : Option Addr) (cap : Nat) (w : World) (hr : Reads w 3 (.slice ad s.lines.length cap) s.lines.length (s.lines.flatMap Ln.cells)) (hl : s.lines.length ≤ 1000000) (hw : s.rightB = false) :
    Calls Tryd.prog 19 #[s.val (.slice ad s.lines.length cap)] w fun e w' => e = .returned (.string (tx (stmT s))) ∧ Keeps (fun _ => False) w w' := by
    have hright := rpageRight_any s ad cap (w.alloc (.cells #[.int .i64 s.cycle, .int .i64 s.fr, .int .i64 s.te, .int .i64 s.due, .slice ad s.lines.length cap, .int .i64 s.total, .int .i64 s.credit, .int .i64 s.min, .bool s.grace] 26)) (hr.alloc _) hl
    rw [hw] at hright
    have hf : stmT s = [] := by unfold stmT; rw [hw]; rfl
    rw [hf]
    obtain ⟨cy, fr, te, du, tot, cr, mi, gr, L⟩ := s
    simp only [Stm.val] at hright hr ⊢
    have Hr := Lib.hid hr; clear hr; have Hright := Lib.hid hright; clear hright; have Hw := Lib.hid hw; clear hw; have Hf := Lib.hid hf; clear hf
    go_enter Tryd.func19, Tryd.ntmps19
    go_wp2_with (go_at_call 16; refine Hright.out.mono ?_; rintro e w1 ⟨rfl, hk⟩; have Hk := Lib.hid hk; clear hk)
    go_ret
    exact ⟨rfl, (Keeps.alloc w _).nt Hk.out⟩
def p6S (b : Nat) (x y : Int) (W : World) : Prop := W.cell? ⟨b, 5, none⟩ = some (.int .i64 x) ∧ W.cell? ⟨b, 6, none⟩ = some (.int .i64 y)
theorem p6S.keep {b : Nat} {x y : Int} {W W' : World} (h : p6S b x y W) (hk : Keeps (fun _ => False) W W') : p6S b x y W' :=
  ⟨(hk.cell (cell_lt h.1) (by simp)).trans h.1, (hk.cell (cell_lt h.2) (by simp)).trans h.2⟩
/-- The worlds of the document's walk: the statement's box. -/
structure RXT (v : Value) (cy fr te du tot cr mi : Int) (gr : Bool) (w W : World) : Prop where
  box : W.heap[w.heap.size]? = some (.cells #[.int .i64 cy, .int .i64 fr, .int .i64 te, .int .i64 du, v, .int .i64 tot, .int .i64 cr, .int .i64 mi, .bool gr] 26 (0, 0))
  kp : Keeps (fun _ => False) w W
theorem RXT.keep {v : Value} {cy fr te du tot cr mi : Int} {gr : Bool} {w W W' : World} (h : RXT v cy fr te du tot cr mi gr w W) (hk : Keeps (fun _ => False) W W') : RXT v cy fr te du tot cr mi gr w W' := ⟨box_old h.box hk (by simp), h.kp.nt hk⟩
set_option maxRecDepth 100000 in
set_option maxHeartbeats 1600000 in
theorem rpageText_ok (s : Stm) (ad : Option Addr) (cap n : Nat) (w : World) (hn : s.lines.length = n) (hr : Reads w 3 (.slice ad n cap) n (s.lines.flatMap Ln.cells)) (hw : s.rightB = true) :
    Calls Tryd.prog 19 #[s.val (.slice ad n cap)] w fun e w' => e = .returned (.string (tx (stmT s))) ∧ Keeps (fun _ => False) w w' := by
  have hR := Stm.right_of hw
  have hright := rpageRight_any s ad cap (w.alloc (.cells #[.int .i64 s.cycle, .int .i64 s.fr, .int .i64 s.te, .int .i64 s.due, .slice ad n cap, .int .i64 s.total, .int .i64 s.credit, .int .i64 s.min, .bool s.grace] 26)) (by rw [hn]; exact hr.alloc _) (by have := hR.len; omega)
  rw [hw, hn] at hright
  have hb0 := heap_alloc_new w (.cells #[.int .i64 s.cycle, .int .i64 s.fr, .int .i64 s.te, .int .i64 s.due, .slice ad n cap, .int .i64 s.total, .int .i64 s.credit, .int .i64 s.min, .bool s.grace] 26)
  obtain ⟨cy, fr, te, du, tot, cr, mi, gr, L⟩ := s
  simp only [Stm.val] at hright hr hn hb0 ⊢
  have hmi0 : 0 ≤ mi ∧ mi ≤ 1000000000000000 := hR.min
  have htot : 0 ≤ tot ∧ tot ≤ 1000000000000000 := hR.total
  have hcr : 0 ≤ cr ∧ cr ≤ 1000000000000000 := hR.credit
  have hcyc := fun W => helpNumber_any cy W (by have := hR.cycle; simp only at this; omega) (by have := hR.cycle; simp only at this; omega)
  have hfr := fun W => rpageDate_any fr W hR.fr.1 hR.fr.2
  have hte := fun W => rpageDate_any te W hR.te.1 hR.te.2
  have hdu := fun W => rpageDate_any du W hR.due.1 hR.due.2
  have hmi := fun W => helpNumber_any mi W (by omega) (by omega)
  have htt := fun W => helpNumber_any tot W (by omega) (by omega)
  have hcc := fun W => helpNumber_any cr W (by omega) (by omega)
  have s1 : (tx (Lib.itoa cy)).size ≤ 21 := by rw [tx_size]; exact itoa_le (by have := hR.cycle; simp only at this; omega)
  have s2 : (tx (dateT fr)).size ≤ 30 := by rw [tx_size]; exact dateT_le (date_bd hR.fr.1 hR.fr.2).1
  have s3 : (tx (dateT te)).size ≤ 30 := by rw [tx_size]; exact dateT_le (date_bd hR.te.1 hR.te.2).1
  have s4 : (tx (dateT du)).size ≤ 30 := by rw [tx_size]; exact dateT_le (date_bd hR.due.1 hR.due.2).1
  have s5 : (tx (Lib.itoa mi)).size ≤ 21 := by rw [tx_size]; exact itoa_le (by omega)
  have s6 : (tx (Lib.itoa tot)).size ≤ 21 := by rw [tx_size]; exact itoa_le (by omega)
  have s7 : (tx (Lib.itoa cr)).size ≤ 21 := by rw [tx_size]; exact itoa_le (by omega)
  obtain ⟨X1, hX1⟩ : ∃ X, tx (Lib.itoa cy) = X := ⟨_, rfl⟩
  obtain ⟨X2, hX2⟩ : ∃ X, tx (dateT fr) = X := ⟨_, rfl⟩
  obtain ⟨X3, hX3⟩ : ∃ X, tx (dateT te) = X := ⟨_, rfl⟩
  obtain ⟨X4, hX4⟩ : ∃ X, tx (dateT du) = X := ⟨_, rfl⟩
  obtain ⟨X5, hX5⟩ : ∃ X, tx (Lib.itoa mi) = X := ⟨_, rfl⟩
  obtain ⟨X6, hX6⟩ : ∃ X, tx (Lib.itoa tot) = X := ⟨_, rfl⟩
  obtain ⟨X7, hX7⟩ : ∃ X, tx (Lib.itoa cr) = X := ⟨_, rfl⟩
  rw [hX1] at hcyc s1
  rw [hX2] at hfr s2
  rw [hX3] at hte s3
  rw [hX4] at hdu s4
  rw [hX5] at hmi s5
  rw [hX6] at htt s6
  rw [hX7] at hcc s7
  have q10 : (⟨#[10]⟩ : ByteArray) = tx [10] := rfl
  have q32 : (⟨#[32]⟩ : ByteArray) = tx [32] := rfl
  have e1 : (⟨#[99, 121, 99, 108, 101, 32]⟩ : ByteArray) ++ X1 ++ ⟨#[32]⟩ ++ X2 ++ ⟨#[46, 46]⟩ ++ X3 ++ ⟨#[10]⟩ = tx (headT ⟨cy, fr, te, du, tot, cr, mi, gr, L⟩) := by
    rw [← hX1, ← hX2, ← hX3, q10, q32, show (⟨#[99, 121, 99, 108, 101, 32]⟩ : ByteArray) = tx wCycle from rfl, show (⟨#[46, 46]⟩ : ByteArray) = tx [46, 46] from rfl]
    simp only [tx_app]
    unfold headT
    simp
  have e2 : ∀ H, tx H ++ (⟨#[100, 117, 101, 32]⟩ : ByteArray) ++ X4 ++ ⟨#[32]⟩ ++ X5 ++ ⟨#[10]⟩ = tx (H ++ lineT (wDue ++ dateT du) [mi]) := by
    intro H
    rw [← hX4, ← hX5, q10, q32, show (⟨#[100, 117, 101, 32]⟩ : ByteArray) = tx wDue from rfl]
    simp only [tx_app]
    unfold lineT numsT
    simp
  have e3 : ∀ H, tx H ++ (⟨#[116, 111, 116, 97, 108, 32]⟩ : ByteArray) ++ X6 ++ ⟨#[32]⟩ ++ X7 ++ ⟨#[10]⟩ = tx (H ++ lineT wTotal [tot, cr]) := by
    intro H
    rw [← hX6, ← hX7, q10, q32, show (⟨#[116, 111, 116, 97, 108, 32]⟩ : ByteArray) = tx (wTotal ++ [32]) from rfl]
    simp only [tx_app]
    unfold lineT numsT
    simp
  have hd1 := headT_bd hR
  have hd2 := dueT_bd hR
  have hd3 := totT_bd hR
  have hd4 := rowsT_bd hR.len.2 (fun x hx => (Ln.ok_iff x).2 (hR.lines x hx))
  have hn8 : n ≤ 8 := by have := hR.len.2; simp only at this; omega
  have hok := hR.lines
  have hfin : stmT ⟨cy, fr, te, du, tot, cr, mi, gr, L⟩ = headT ⟨cy, fr, te, du, tot, cr, mi, gr, L⟩ ++ lineT (wDue ++ dateT du) [mi] ++ rowsT L n ++ lineT wTotal [tot, cr] ++ (if gr = true then wGrace else []) := by
    unfold stmT
    rw [if_pos hw]
    simp only
    rw [hn]
  simp only at hd1 hd2 hd3 hd4 hok
  obtain ⟨H1, hH1⟩ : ∃ H, headT ⟨cy, fr, te, du, tot, cr, mi, gr, L⟩ = H := ⟨_, rfl⟩
  rw [hH1] at e1 hd1 hfin
  obtain ⟨T2, hT2⟩ : ∃ H, lineT (wDue ++ dateT du) [mi] = H := ⟨_, rfl⟩
  rw [hT2] at e2 hd2 hfin
  obtain ⟨T3, hT3⟩ : ∃ H, lineT wTotal [tot, cr] = H := ⟨_, rfl⟩
  rw [hT3] at e3 hd3 hfin
  rw [hfin]
  have hX8 : RXT (.slice ad n cap) cy fr te du tot cr mi gr w (w.alloc (.cells #[.int .i64 cy, .int .i64 fr, .int .i64 te, .int .i64 du, .slice ad n cap, .int .i64 tot, .int .i64 cr, .int .i64 mi, .bool gr] 26)) := ⟨hb0, Keeps.alloc _ _⟩
  clear q10 q32 hmi0 htot hcr hX1 hX2 hX3 hX4 hX5 hX6 hX7 hH1 hT2 hT3 hfin hR hw hb0
  have Hright := Lib.hid hright; clear hright; have Hn := Lib.hid hn; clear hn; have Hr := Lib.hid hr; clear hr; have Hcyc := Lib.hid hcyc; clear hcyc; have Hfr := Lib.hid hfr; clear hfr; have Hte := Lib.hid hte; clear hte; have Hdu := Lib.hid hdu; clear hdu; have Hmi := Lib.hid hmi; clear hmi; have Htt := Lib.hid htt; clear htt; have Hcc := Lib.hid hcc; clear hcc; have E1 := Lib.hid e1; clear e1; have E2 := Lib.hid e2; clear e2; have E3 := Lib.hid e3; clear e3; have Hd1 := Lib.hid hd1; clear hd1; have Hd2 := Lib.hid hd2; clear hd2; have Hd3 := Lib.hid hd3; clear hd3; have Hd4 := Lib.hid hd4; clear hd4; have Hok := Lib.hid hok; clear hok; have HX8 := Lib.hid hX8; clear hX8
  go_enter Tryd.func19, Tryd.ntmps19
  go_wp2_with fail
  refine Hright.out.mono ?_
  rintro e w1 ⟨rfl, hk1⟩
  have hp1 := HX8.out.keep hk1
  have Hk1 := Lib.hid hk1; clear hk1; have Hp1 := Lib.hid hp1; clear hp1
  go_upto_region 3 with fail
  go_cut [3] (fun x3 wz => x3 = .string (tx H1) ∧ RXT (.slice ad n cap) cy fr te du tot cr mi gr w wz)
  case first =>
    have hS0 : p4S w.heap.size cy fr te w1 := ⟨cell_of_cells Hp1.out.box 0, cell_of_cells Hp1.out.box 1, cell_of_cells Hp1.out.box 2⟩
    refine wp_region_mixw (p4S w.heap.size cy fr te) (.take 0 (.take 1 (.take 5 (.take 6 (.take 7 (.take 11 (.take 12 (.take 13 (.move 2 (.take 3 (.take 4 (.move 8 (.take 9 (.take 10 (.move 14 (.take 15 (.take 16 (.take 17 .done)))))))))))))))))) (by kernel_rfl) (by kernel_rfl) ?_ ?_
    · exact hS0.keep (Keeps.drew _)
    intro w3 hs3 hk3
    have hp3 := Hp1.out.keep hk3
    have HS0 := Lib.hid hS0; clear hS0; have Hk3 := Lib.hid hk3; clear hk3; have Hp3 := Lib.hid hp3; clear hp3
    repeat (first
      | (refine mix_skip rfl (by rfl) ?_; try simp only [Act.put, List.setIfInBounds_toArray, List.set_cons_zero, List.set_cons_succ])
      | (refine mix_skipm rfl (by rfl) ?_; try simp only [Act.put, List.setIfInBounds_toArray, List.set_cons_zero, List.set_cons_succ])
      | (refine mix_take (v := ?_) rfl (by rfl) ?_ ?_; rotate_left; (· intro w' hSw; unfold p4S at hSw; go_simp; (try rw [if_neg (by omega)]); (try with_reducible rfl)); rotate_right; try simp only [Act.put, List.setIfInBounds_toArray, List.set_cons_zero, List.set_cons_succ]))
    refine mix_move rfl (fun K hK => ?_)
    go_simp
    go_at_call 40
    ((with_reducible refine (Hcyc.out _).mono ?_); rintro e w4 ⟨rfl, hk4⟩; dsimp only)
    refine hK.out _ _ (by exact hs3.keep hk4) ?_
    clear hK K
    try simp only [Act.put, List.setIfInBounds_toArray, List.set_cons_zero, List.set_cons_succ]
    have hs4 := hs3.keep hk4
    have hp4 := Hp3.out.keep hk4
    have Hk4 := Lib.hid hk4; clear hk4; have Hs3 := Lib.hid hs3; clear hs3; have Hs4 := Lib.hid hs4; clear hs4; have Hp4 := Lib.hid hp4; clear hp4
    repeat (first
      | (refine mix_skip rfl (by rfl) ?_; try simp only [Act.put, List.setIfInBounds_toArray, List.set_cons_zero, List.set_cons_succ])
      | (refine mix_skipm rfl (by rfl) ?_; try simp only [Act.put, List.setIfInBounds_toArray, List.set_cons_zero, List.set_cons_succ])
      | (refine mix_take (v := ?_) rfl (by rfl) ?_ ?_; rotate_left; (· intro w' hSw; unfold p4S at hSw; go_simp; (try rw [if_neg (by omega)]); (try with_reducible rfl)); rotate_right; try simp only [Act.put, List.setIfInBounds_toArray, List.set_cons_zero, List.set_cons_succ]))
    refine mix_move rfl (fun K hK => ?_)
    go_simp
    go_at_call 41
    ((with_reducible refine (Hfr.out _).mono ?_); rintro e w5 ⟨rfl, hk5⟩; dsimp only)
    refine hK.out _ _ (by exact Hs4.out.keep hk5) ?_
    clear hK K
    try simp only [Act.put, List.setIfInBounds_toArray, List.set_cons_zero, List.set_cons_succ]
    have hs5 := Hs4.out.keep hk5
    have hp5 := Hp4.out.keep hk5
    have Hk5 := Lib.hid hk5; clear hk5; have Hs5 := Lib.hid hs5; clear hs5; have Hp5 := Lib.hid hp5; clear hp5
    repeat (first
      | (refine mix_skip rfl (by rfl) ?_; try simp only [Act.put, List.setIfInBounds_toArray, List.set_cons_zero, List.set_cons_succ])
      | (refine mix_skipm rfl (by rfl) ?_; try simp only [Act.put, List.setIfInBounds_toArray, List.set_cons_zero, List.set_cons_succ])
      | (refine mix_take (v := ?_) rfl (by rfl) ?_ ?_; rotate_left; (· intro w' hSw; unfold p4S at hSw; go_simp; (try rw [if_neg (by omega)]); (try with_reducible rfl)); rotate_right; try simp only [Act.put, List.setIfInBounds_toArray, List.set_cons_zero, List.set_cons_succ]))
    refine mix_move rfl (fun K hK => ?_)
    go_simp
    go_at_call 41
    ((with_reducible refine (Hte.out _).mono ?_); rintro e w6 ⟨rfl, hk6⟩; dsimp only)
    refine hK.out _ _ (by exact Hs5.out.keep hk6) ?_
    clear hK K
    try simp only [Act.put, List.setIfInBounds_toArray, List.set_cons_zero, List.set_cons_succ]
    have hp6 := Hp5.out.keep hk6
    have Hk6 := Lib.hid hk6; clear hk6; have Hp6 := Lib.hid hp6; clear hp6
    repeat (first
      | (refine mix_skip rfl (by rfl) ?_; try simp only [Act.put, List.setIfInBounds_toArray, List.set_cons_zero, List.set_cons_succ])
      | (refine mix_skipm rfl (by rfl) ?_; try simp only [Act.put, List.setIfInBounds_toArray, List.set_cons_zero, List.set_cons_succ])
      | (refine mix_take (v := ?_) rfl (by rfl) ?_ ?_; rotate_left; (· intro w' hSw; unfold p4S at hSw; go_simp; (try rw [if_neg (by omega)]); (try with_reducible rfl)); rotate_right; try simp only [Act.put, List.setIfInBounds_toArray, List.set_cons_zero, List.set_cons_succ]))
    refine mix_done ?_
    go_wp2_with fail
    go_meet
    exact ⟨by rw [← E1.out], Hp6.out⟩
  obtain ⟨w8, hw8⟩ : ∃ x, x = wc := ⟨_, rfl⟩
  subst hw8
  obtain ⟨rfl, hp8⟩ := hcut
  have z1 : (tx H1).size ≤ 95 := by rw [tx_size]; exact Hd1.out.2
  have hE2 := E2.out H1
  obtain ⟨Y1, hY1⟩ : ∃ Y, tx H1 = Y := ⟨_, rfl⟩
  rw [hY1] at z1 hE2
  rw [hY1]
  have Hp8 := Lib.hid hp8; clear hp8; have HY1 := Lib.hid hY1; clear hY1; have HE2 := Lib.hid hE2; clear hE2
  go_upto_region 4 with fail
  go_cut [3] (fun x3 wz => x3 = .string (tx (H1 ++ T2)) ∧ RXT (.slice ad n cap) cy fr te du tot cr mi gr w wz)
  case first =>
    have hS0 : p5S w.heap.size du mi w8 := ⟨cell_of_cells Hp8.out.box 3, cell_of_cells Hp8.out.box 7⟩
    refine wp_region_mixw (p5S w.heap.size du mi) (.take 0 (.take 1 (.take 2 (.take 3 (.take 7 (.take 8 (.move 4 (.take 5 (.take 6 (.move 9 (.take 10 (.take 11 (.take 12 .done))))))))))))) (by kernel_rfl) (by kernel_rfl) ?_ ?_
    · exact hS0.keep (Keeps.drew _)
    intro w9 hs9 hk9
    have hp9 := Hp8.out.keep hk9
    have HS0 := Lib.hid hS0; clear hS0; have Hk9 := Lib.hid hk9; clear hk9; have Hp9 := Lib.hid hp9; clear hp9
    repeat (first
      | (refine mix_skip rfl (by rfl) ?_; try simp only [Act.put, List.setIfInBounds_toArray, List.set_cons_zero, List.set_cons_succ])
      | (refine mix_skipm rfl (by rfl) ?_; try simp only [Act.put, List.setIfInBounds_toArray, List.set_cons_zero, List.set_cons_succ])
      | (refine mix_take (v := ?_) rfl (by rfl) ?_ ?_; rotate_left; (· intro w' hSw; unfold p5S at hSw; go_simp; (try rw [if_neg (by omega)]); (try with_reducible rfl)); rotate_right; try simp only [Act.put, List.setIfInBounds_toArray, List.set_cons_zero, List.set_cons_succ]))
    refine mix_move rfl (fun K hK => ?_)
    go_simp
    go_at_call 41
    ((with_reducible refine (Hdu.out _).mono ?_); rintro e w10 ⟨rfl, hk10⟩; dsimp only)
    refine hK.out _ _ (by exact hs9.keep hk10) ?_
    clear hK K
    try simp only [Act.put, List.setIfInBounds_toArray, List.set_cons_zero, List.set_cons_succ]
    have hs10 := hs9.keep hk10
    have hp10 := Hp9.out.keep hk10
    have Hk10 := Lib.hid hk10; clear hk10; have Hs9 := Lib.hid hs9; clear hs9; have Hs10 := Lib.hid hs10; clear hs10; have Hp10 := Lib.hid hp10; clear hp10
    repeat (first
      | (refine mix_skip rfl (by rfl) ?_; try simp only [Act.put, List.setIfInBounds_toArray, List.set_cons_zero, List.set_cons_succ])
      | (refine mix_skipm rfl (by rfl) ?_; try simp only [Act.put, List.setIfInBounds_toArray, List.set_cons_zero, List.set_cons_succ])
      | (refine mix_take (v := ?_) rfl (by rfl) ?_ ?_; rotate_left; (· intro w' hSw; unfold p5S at hSw; go_simp; (try rw [if_neg (by omega)]); (try with_reducible rfl)); rotate_right; try simp only [Act.put, List.setIfInBounds_toArray, List.set_cons_zero, List.set_cons_succ]))
    refine mix_move rfl (fun K hK => ?_)
    go_simp
    go_at_call 40
    ((with_reducible refine (Hmi.out _).mono ?_); rintro e w11 ⟨rfl, hk11⟩; dsimp only)
    refine hK.out _ _ (by exact Hs10.out.keep hk11) ?_
    clear hK K
    try simp only [Act.put, List.setIfInBounds_toArray, List.set_cons_zero, List.set_cons_succ]
    have hp11 := Hp10.out.keep hk11
    have Hk11 := Lib.hid hk11; clear hk11; have Hp11 := Lib.hid hp11; clear hp11
    repeat (first
      | (refine mix_skip rfl (by rfl) ?_; try simp only [Act.put, List.setIfInBounds_toArray, List.set_cons_zero, List.set_cons_succ])
      | (refine mix_skipm rfl (by rfl) ?_; try simp only [Act.put, List.setIfInBounds_toArray, List.set_cons_zero, List.set_cons_succ])
      | (refine mix_take (v := ?_) rfl (by rfl) ?_ ?_; rotate_left; (· intro w' hSw; unfold p5S at hSw; go_simp; (try rw [if_neg (by omega)]); (try with_reducible rfl)); rotate_right; try simp only [Act.put, List.setIfInBounds_toArray, List.set_cons_zero, List.set_cons_succ]))
    refine mix_done ?_
    go_wp2_with fail
    go_meet
    exact ⟨by rw [← HE2.out], Hp11.out⟩
  obtain ⟨w12, hw12⟩ : ∃ x, x = wc := ⟨_, rfl⟩
  subst hw12
  obtain ⟨rfl, hp12⟩ := hcut
  have hz : (tx (H1 ++ T2)).size ≤ 160 := by rw [tx_size, List.length_append]; have := Hd1.out; have := Hd2.out; omega
  clear z1
  have Hp12 := Lib.hid hp12; clear hp12; have Hz := Lib.hid hz; clear hz
  go_upto_region 6 with fail
  go_loopw [3, 4] (fun x3 x4 wr => ∃ (j : Nat) (Y : ByteArray), x4 = .int .i64 (j : Nat) ∧ x3 = .string Y ∧ j ≤ n ∧ Y.size ≤ 160 + 100 * j ∧ Hid (Y = tx (H1 ++ T2 ++ rowsT L j)) ∧ Hid (RXT (.slice ad n cap) cy fr te du tot cr mi gr w wr)) (fun _ x4 _ => n - (intOf x4).toNat)
  case atStart => exact ⟨0, _, rfl, rfl, Nat.zero_le _, Hz.out, Lib.hid (by rw [show rowsT L 0 = [] from rfl, List.append_nil]), Hp12⟩
  case round =>
    obtain ⟨j, Y, rfl, rfl, hj, hsY, HY, HP⟩ := hrel
    obtain ⟨w15, hw15⟩ : ∃ x, x = wr := ⟨_, rfl⟩
    subst hw15
    have hb5 := HP.out.box
    have b4 : w15.cell? ⟨w.heap.size, 4, none⟩ = some (.slice ad n cap) := cell_of_cells hb5 4
    have bl := lt_of_block hb5
    by_cases hjn : j < n
    · have hjI : (j : Int) < (n : Int) := by omega
      obtain ⟨x, hx⟩ := get_some (L := L) (k := j) (by rw [Hn.out]; exact hjn)
      obtain ⟨g, o, cc, he, hc⟩ := (Hr.out.keeps HP.out.kp (by simp)).elem Ln.cells_length hx (by decide)
      simp only [Value.slice.injEq, true_and] at he
      obtain ⟨rfl, rfl⟩ := he
      have x0 : w15.cell? ⟨g, o + j * 3, none⟩ = some (.int .i64 x.balance) := hc 0 (by decide)
      have x1 : w15.cell? ⟨g, o + j * 3 + 1, none⟩ = some (.int .i64 x.interest) := hc 1 (by decide)
      have x2 : w15.cell? ⟨g, o + j * 3 + 2, none⟩ = some (.int .i64 x.rate) := hc 2 (by decide)
      have xl := cell_lt x0
      have hxo := Hok.out x (List.mem_of_getElem? hx)
      have cj := fun W => helpNumber_any ((j : Int) + 1) W (by omega) (by omega)
      have cb := fun W => helpNumber_any x.balance W (by omega) (by omega)
      have ci := fun W => helpNumber_any x.interest W (by omega) (by omega)
      have cx := fun W => helpNumber_any x.rate W (by omega) (by omega)
      have a1 : (tx (Lib.itoa ((j : Int) + 1))).size ≤ 21 := by rw [tx_size]; exact itoa_le (by omega)
      have a2 : (tx (Lib.itoa x.balance)).size ≤ 21 := by rw [tx_size]; exact itoa_le (by omega)
      have a3 : (tx (Lib.itoa x.interest)).size ≤ 21 := by rw [tx_size]; exact itoa_le (by omega)
      have a4 : (tx (Lib.itoa x.rate)).size ≤ 21 := by rw [tx_size]; exact itoa_le (by omega)
      have hev : ∀ A B C D, A = tx (Lib.itoa ((j : Int) + 1)) → B = tx (Lib.itoa x.balance) → C = tx (Lib.itoa x.interest) → D = tx (Lib.itoa x.rate) → Y ++ (⟨#[116, 114, 97, 110, 99, 104, 101, 32]⟩ : ByteArray) ++ A ++ ⟨#[32]⟩ ++ B ++ ⟨#[32]⟩ ++ C ++ ⟨#[32]⟩ ++ D ++ ⟨#[10]⟩ = tx (H1 ++ T2 ++ rowsT L (j + 1)) := by
        rintro A B C D rfl rfl rfl rfl
        rw [HY.out, rowsT_succ hx, show (⟨#[10]⟩ : ByteArray) = tx [10] from rfl, show (⟨#[32]⟩ : ByteArray) = tx [32] from rfl, show (⟨#[116, 114, 97, 110, 99, 104, 101, 32]⟩ : ByteArray) = tx (wTranche ++ [32]) from rfl]
        simp only [tx_app]
        unfold rowT lineT numsT
        simp
      obtain ⟨A1, hA1⟩ : ∃ X, tx (Lib.itoa ((j : Int) + 1)) = X := ⟨_, rfl⟩
      obtain ⟨A2, hA2⟩ : ∃ X, tx (Lib.itoa x.balance) = X := ⟨_, rfl⟩
      obtain ⟨A3, hA3⟩ : ∃ X, tx (Lib.itoa x.interest) = X := ⟨_, rfl⟩
      obtain ⟨A4, hA4⟩ : ∃ X, tx (Lib.itoa x.rate) = X := ⟨_, rfl⟩
      have hev1 := hev _ _ _ _ hA1.symm hA2.symm hA3.symm hA4.symm
      have hrb := rowT_bd (n := j) (x := x) (by omega) ((Ln.ok_iff x).2 hxo)
      have hrs := Hd4.out (j + 1) (by rw [Hn.out]; omega)
      rw [hA1] at cj a1
      rw [hA2] at cb a2
      rw [hA3] at ci a3
      rw [hA4] at cx a4
      clear hev hc
      have hwr : IntKind.i64.wrap ((j : Int) + 1) = (j : Int) + 1 := by simp [IntKind.wrap, IntKind.signed, IntKind.bits]; omega
      have Hb5 := Lib.hid hb5; clear hb5; have Hx := Lib.hid hx; clear hx; have Hxo := Lib.hid hxo; clear hxo; have Cj := Lib.hid cj; clear cj; have Cb := Lib.hid cb; clear cb; have Ci := Lib.hid ci; clear ci; have Cx := Lib.hid cx; clear cx; have HA1 := Lib.hid hA1; clear hA1; have HA2 := Lib.hid hA2; clear hA2; have HA3 := Lib.hid hA3; clear hA3; have HA4 := Lib.hid hA4; clear hA4; have Hev1 := Lib.hid hev1; clear hev1; have Hrb := Lib.hid hrb; clear hrb; have Hrs := Lib.hid hrs; clear hrs
      go_upto_region 9 with fail
      obtain ⟨w16, hw16⟩ : ∃ y, y = w15.alloc (.cells #[.int .i64 x.balance, .int .i64 x.interest, .int .i64 x.rate] 30) := ⟨_, rfl⟩
      have hb16 : w16.heap[w15.heap.size]? = some (.cells #[.int .i64 x.balance, .int .i64 x.interest, .int .i64 x.rate] 30 (0, 0)) := by rw [hw16]; exact heap_alloc_new w15 _
      have hp16 := HP.out.keep (Keeps.alloc w15 (.cells #[.int .i64 x.balance, .int .i64 x.interest, .int .i64 x.rate] 30))
      rw [← hw16] at hp16
      rw [← hw16]
      obtain ⟨b, hb⟩ : ∃ b, b = w15.heap.size := ⟨_, rfl⟩
      rw [← hb] at hb16
      rw [← hb]
      have hS0 : dtS b x.balance x.interest x.rate w16 := ⟨cell_of_cells hb16 0, cell_of_cells hb16 1, cell_of_cells hb16 2⟩
      clear x0 x1 x2 xl b4 bl
      have Hw16 := Lib.hid hw16; clear hw16; have Hb16 := Lib.hid hb16; clear hb16; have Hp16 := Lib.hid hp16; clear hp16; have Hb := Lib.hid hb; clear hb; have HS0 := Lib.hid hS0; clear hS0
      refine wp_region_mixw (dtS b x.balance x.interest x.rate) (.take 0 (.take 1 (.take 2 (.take 3 (.take 7 (.take 8 (.take 12 (.take 13 (.take 17 (.take 18 (.move 4 (.take 5 (.take 6 (.move 9 (.take 10 (.take 11 (.move 14 (.take 15 (.take 16 (.move 19 (.take 20 (.take 21 (.take 22 .done))))))))))))))))))))))) (by kernel_rfl) (by kernel_rfl) ?_ ?_
      · exact HS0.out.keep (Keeps.drew _)
      intro w17 hs17 hk17
      have hp17 := Hp16.out.keep hk17
      have Hk17 := Lib.hid hk17; clear hk17; have Hp17 := Lib.hid hp17; clear hp17
      repeat (first
        | (refine mix_skip rfl (by rfl) ?_; try simp only [Act.put, List.setIfInBounds_toArray, List.set_cons_zero, List.set_cons_succ])
        | (refine mix_skipm rfl (by rfl) ?_; try simp only [Act.put, List.setIfInBounds_toArray, List.set_cons_zero, List.set_cons_succ])
        | (refine mix_take (v := ?_) rfl (by rfl) ?_ ?_; rotate_left; (· intro w' hSw; unfold dtS at hSw; go_simp; (try rw [if_neg (by omega)]); (try with_reducible rfl)); rotate_right; try simp only [Act.put, List.setIfInBounds_toArray, List.set_cons_zero, List.set_cons_succ]))
      refine mix_move rfl (fun K hK => ?_)
      go_simp
      go_at_call 40
      ((with_reducible refine (Cj.out _).mono ?_); rintro e w18 ⟨rfl, hk18⟩; dsimp only)
      refine hK.out _ _ (by exact hs17.keep hk18) ?_
      clear hK K
      try simp only [Act.put, List.setIfInBounds_toArray, List.set_cons_zero, List.set_cons_succ]
      have hs18 := hs17.keep hk18
      have hp18 := Hp17.out.keep hk18
      have Hk18 := Lib.hid hk18; clear hk18; have Hs17 := Lib.hid hs17; clear hs17; have Hs18 := Lib.hid hs18; clear hs18; have Hp18 := Lib.hid hp18; clear hp18
      repeat (first
        | (refine mix_skip rfl (by rfl) ?_; try simp only [Act.put, List.setIfInBounds_toArray, List.set_cons_zero, List.set_cons_succ])
        | (refine mix_skipm rfl (by rfl) ?_; try simp only [Act.put, List.setIfInBounds_toArray, List.set_cons_zero, List.set_cons_succ])
        | (refine mix_take (v := ?_) rfl (by rfl) ?_ ?_; rotate_left; (· intro w' hSw; unfold dtS at hSw; go_simp; (try rw [if_neg (by omega)]); (try with_reducible rfl)); rotate_right; try simp only [Act.put, List.setIfInBounds_toArray, List.set_cons_zero, List.set_cons_succ]))
      refine mix_move rfl (fun K hK => ?_)
      go_simp
      go_at_call 40
      ((with_reducible refine (Cb.out _).mono ?_); rintro e w19 ⟨rfl, hk19⟩; dsimp only)
      refine hK.out _ _ (by exact Hs18.out.keep hk19) ?_
      clear hK K
      try simp only [Act.put, List.setIfInBounds_toArray, List.set_cons_zero, List.set_cons_succ]
      have hs19 := Hs18.out.keep hk19
      have hp19 := Hp18.out.keep hk19
      have Hk19 := Lib.hid hk19; clear hk19; have Hs19 := Lib.hid hs19; clear hs19; have Hp19 := Lib.hid hp19; clear hp19
      repeat (first
        | (refine mix_skip rfl (by rfl) ?_; try simp only [Act.put, List.setIfInBounds_toArray, List.set_cons_zero, List.set_cons_succ])
        | (refine mix_skipm rfl (by rfl) ?_; try simp only [Act.put, List.setIfInBounds_toArray, List.set_cons_zero, List.set_cons_succ])
        | (refine mix_take (v := ?_) rfl (by rfl) ?_ ?_; rotate_left; (· intro w' hSw; unfold dtS at hSw; go_simp; (try rw [if_neg (by omega)]); (try with_reducible rfl)); rotate_right; try simp only [Act.put, List.setIfInBounds_toArray, List.set_cons_zero, List.set_cons_succ]))
      refine mix_move rfl (fun K hK => ?_)
      go_simp
      go_at_call 40
      ((with_reducible refine (Ci.out _).mono ?_); rintro e w20 ⟨rfl, hk20⟩; dsimp only)
      refine hK.out _ _ (by exact Hs19.out.keep hk20) ?_
      clear hK K
      try simp only [Act.put, List.setIfInBounds_toArray, List.set_cons_zero, List.set_cons_succ]
      have hs20 := Hs19.out.keep hk20
      have hp20 := Hp19.out.keep hk20
      have Hk20 := Lib.hid hk20; clear hk20; have Hs20 := Lib.hid hs20; clear hs20; have Hp20 := Lib.hid hp20; clear hp20
      repeat (first
        | (refine mix_skip rfl (by rfl) ?_; try simp only [Act.put, List.setIfInBounds_toArray, List.set_cons_zero, List.set_cons_succ])
        | (refine mix_skipm rfl (by rfl) ?_; try simp only [Act.put, List.setIfInBounds_toArray, List.set_cons_zero, List.set_cons_succ])
        | (refine mix_take (v := ?_) rfl (by rfl) ?_ ?_; rotate_left; (· intro w' hSw; unfold dtS at hSw; go_simp; (try rw [if_neg (by omega)]); (try with_reducible rfl)); rotate_right; try simp only [Act.put, List.setIfInBounds_toArray, List.set_cons_zero, List.set_cons_succ]))
      refine mix_move rfl (fun K hK => ?_)
      go_simp
      go_at_call 40
      ((with_reducible refine (Cx.out _).mono ?_); rintro e w21 ⟨rfl, hk21⟩; dsimp only)
      refine hK.out _ _ (by exact Hs20.out.keep hk21) ?_
      clear hK K
      try simp only [Act.put, List.setIfInBounds_toArray, List.set_cons_zero, List.set_cons_succ]
      have hp21 := Hp20.out.keep hk21
      have Hk21 := Lib.hid hk21; clear hk21; have Hp21 := Lib.hid hp21; clear hp21
      repeat (first
        | (refine mix_skip rfl (by rfl) ?_; try simp only [Act.put, List.setIfInBounds_toArray, List.set_cons_zero, List.set_cons_succ])
        | (refine mix_skipm rfl (by rfl) ?_; try simp only [Act.put, List.setIfInBounds_toArray, List.set_cons_zero, List.set_cons_succ])
        | (refine mix_take (v := ?_) rfl (by rfl) ?_ ?_; rotate_left; (· intro w' hSw; unfold dtS at hSw; go_simp; (try rw [if_neg (by omega)]); (try with_reducible rfl)); rotate_right; try simp only [Act.put, List.setIfInBounds_toArray, List.set_cons_zero, List.set_cons_succ]))
      refine mix_done ?_
      go_wp2_with fail
      go_roundw
      case rel => exact ⟨j + 1, _, by go_num, rfl, by omega, by rw [Hev1.out, tx_size, List.length_append, List.length_append]; have := Hrs.out; have := Hd1.out; have := Hd2.out; omega, Lib.hid Hev1.out, Hp21⟩
      case measure => simp [intOf]; omega
    · obtain rfl : j = n := by omega
      have hE3 := E3.out (H1 ++ T2 ++ rowsT L j)
      rw [← HY.out] at hE3
      have hsz : Y.size ≤ 960 := by omega
      clear hsY
      have Hb5 := Lib.hid hb5; clear hb5; have HE3 := Lib.hid hE3; clear hE3
      go_upto_region 10 with fail
      clear b4 bl
      have hS0 : p6S w.heap.size tot cr w15 := ⟨cell_of_cells Hb5.out 5, cell_of_cells Hb5.out 6⟩
      have HS0 := Lib.hid hS0; clear hS0
      refine wp_region_mixw (p6S w.heap.size tot cr) (.take 0 (.take 1 (.take 2 (.take 3 (.take 7 (.take 8 (.move 4 (.take 5 (.take 6 (.move 9 (.take 10 (.take 11 (.take 12 .done))))))))))))) (by kernel_rfl) (by kernel_rfl) ?_ ?_
      · exact HS0.out.keep (Keeps.drew _)
      intro w17 hs17 hk17
      have hp17 := HP.out.keep hk17
      have Hk17 := Lib.hid hk17; clear hk17; have Hp17 := Lib.hid hp17; clear hp17
      repeat (first
        | (refine mix_skip rfl (by rfl) ?_; try simp only [Act.put, List.setIfInBounds_toArray, List.set_cons_zero, List.set_cons_succ])
        | (refine mix_skipm rfl (by rfl) ?_; try simp only [Act.put, List.setIfInBounds_toArray, List.set_cons_zero, List.set_cons_succ])
        | (refine mix_take (v := ?_) rfl (by rfl) ?_ ?_; rotate_left; (· intro w' hSw; unfold p6S at hSw; go_simp; (try rw [if_neg (by omega)]); (try with_reducible rfl)); rotate_right; try simp only [Act.put, List.setIfInBounds_toArray, List.set_cons_zero, List.set_cons_succ]))
      refine mix_move rfl (fun K hK => ?_)
      go_simp
      go_at_call 40
      ((with_reducible refine (Htt.out _).mono ?_); rintro e w18 ⟨rfl, hk18⟩; dsimp only)
      refine hK.out _ _ (by exact hs17.keep hk18) ?_
      clear hK K
      try simp only [Act.put, List.setIfInBounds_toArray, List.set_cons_zero, List.set_cons_succ]
      have hs18 := hs17.keep hk18
      have hp18 := Hp17.out.keep hk18
      have Hk18 := Lib.hid hk18; clear hk18; have Hs17 := Lib.hid hs17; clear hs17; have Hs18 := Lib.hid hs18; clear hs18; have Hp18 := Lib.hid hp18; clear hp18
      repeat (first
        | (refine mix_skip rfl (by rfl) ?_; try simp only [Act.put, List.setIfInBounds_toArray, List.set_cons_zero, List.set_cons_succ])
        | (refine mix_skipm rfl (by rfl) ?_; try simp only [Act.put, List.setIfInBounds_toArray, List.set_cons_zero, List.set_cons_succ])
        | (refine mix_take (v := ?_) rfl (by rfl) ?_ ?_; rotate_left; (· intro w' hSw; unfold p6S at hSw; go_simp; (try rw [if_neg (by omega)]); (try with_reducible rfl)); rotate_right; try simp only [Act.put, List.setIfInBounds_toArray, List.set_cons_zero, List.set_cons_succ]))
      refine mix_move rfl (fun K hK => ?_)
      go_simp
      go_at_call 40
      ((with_reducible refine (Hcc.out _).mono ?_); rintro e w19 ⟨rfl, hk19⟩; dsimp only)
      refine hK.out _ _ (by exact Hs18.out.keep hk19) ?_
      clear hK K
      try simp only [Act.put, List.setIfInBounds_toArray, List.set_cons_zero, List.set_cons_succ]
      have hp19 := Hp18.out.keep hk19
      have b8 : w19.cell? ⟨w.heap.size, 8, none⟩ = some (.bool gr) := cell_of_cells hp19.box 8
      have bl := lt_of_block hp19.box
      have Hk19 := Lib.hid hk19; clear hk19; have Hp19 := Lib.hid hp19; clear hp19
      repeat (first
        | (refine mix_skip rfl (by rfl) ?_; try simp only [Act.put, List.setIfInBounds_toArray, List.set_cons_zero, List.set_cons_succ])
        | (refine mix_skipm rfl (by rfl) ?_; try simp only [Act.put, List.setIfInBounds_toArray, List.set_cons_zero, List.set_cons_succ])
        | (refine mix_take (v := ?_) rfl (by rfl) ?_ ?_; rotate_left; (· intro w' hSw; unfold p6S at hSw; go_simp; (try rw [if_neg (by omega)]); (try with_reducible rfl)); rotate_right; try simp only [Act.put, List.setIfInBounds_toArray, List.set_cons_zero, List.set_cons_succ]))
      refine mix_done ?_
      rw [HE3.out]
      have z3 : (tx (H1 ++ T2 ++ rowsT L j ++ T3)).size ≤ 1100 := by
        rw [tx_size]
        have h1 := (Hd4.out j (by rw [Hn.out]; omega)).2
        have := Hd1.out; have := Hd2.out; have := Hd3.out
        simp only [List.length_append]; omega
      obtain ⟨Z, hZ⟩ : ∃ Z, tx (H1 ++ T2 ++ rowsT L j ++ T3) = Z := ⟨_, rfl⟩
      rw [hZ] at z3
      rw [hZ]
      have HZ := Lib.hid hZ; clear hZ
      rcases gr with _ | _
      · go_wp2
        go_ret
        refine ⟨by rw [← HZ.out]; simp, Hp19.out.kp⟩
      · go_wp2
        go_ret
        refine ⟨?_, Hp19.out.kp⟩
        rw [← HZ.out]
        show Ending.returned (.string (_ ++ tx wGrace)) = _
        rw [tx_app]; simp
end Go.Proofs.YthokcmbgamanbaaDoor
